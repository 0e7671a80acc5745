/-
  The reference: what is earned at most, and with how few cuts, forwards (Up).
-/
import Derived.Test.YtikgghhceolaeaaGreatU22
set_option linter.unusedSimpArgs false
set_option linter.unusedVariables false
namespace Go.AM
open Go.Proofs.Tryz
attribute [-go_sem] put_ne put_same
attribute [local go_sem ↓] put_if
theorem UpK.s1 {n:Nat} {s:List Int × List Int} (h:UpK n s) (hn:n≤60):Small s.1:=⟨by rw [h.l1];omega,fun y hy=>by
 obtain ⟨i,hi⟩:=List.getElem?_of_mem hy
 have:=h.b1 i
 have hl:=(List.getElem?_eq_some_iff.1 hi).1
 rw [h.l1] at hl
 rw [List.getD_eq_getElem?_getD,hi] at this
 simp only [Option.getD_some] at this
 omega⟩
theorem UpK.s2 {n:Nat} {s:List Int × List Int} (h:UpK n s) (hn:n≤60):Small s.2:=⟨by rw [h.l2];omega,fun y hy=>by
 obtain ⟨i,hi⟩:=List.getElem?_of_mem hy
 have:=h.b2 i
 have hl:=(List.getElem?_eq_some_iff.1 hi).1
 rw [h.l2] at hl
 rw [List.getD_eq_getElem?_getD,hi] at this
 simp only [Option.getD_some] at this
 omega⟩
theorem rep_lst (n:Nat):(lst (fun _=>0) n:List Int)=List.replicate n 0:=by
 refine List.ext_getElem? fun i=>?_
 unfold lst
 rw [List.getElem?_map,List.getElem?_replicate]
 by_cases h:i<n
 ·rw [List.getElem?_range h,if_pos h];rfl
 ·rw [List.getElem?_eq_none (by simpa using h),if_neg h];rfl
theorem own_rowB {H:Heap} {A n b:Nat} {l:List Int} (hg:H[A]?=some (rowB l 0)) (hb:b≤A) (hn:n=l.length) (h0:0<n):Own encI 3 b H (.slice (some ⟨A,0,0⟩) n n) l:=by
 subst hn
 exact .inr ⟨A,0,rfl,by rw [rowE,flat_encI];exact hg,hb,h0⟩
theorem set4 {K:Heap} {i j:Nat} {a b c d:ABlk} (h:i ≠ j):(((K.set i a).set j b).set i c).set j d=(K.set i c).set j d:=by
 rw [List.set_comm b c (fun q=>h q.symm),List.set_set,List.set_set]
set_option maxRecDepth 100000 in
set_option maxHeartbeats 8000000 in
theorem run_up {base:Nat} {h:Heap} {v:AVal} {R:Rib} {f:Nat} (hb:base≤h.length) (hA:RibAt h v R) (hR:RibOk R) (hf:f≤R.L.toNat) :
  Ret prog raw base (.fn 131 [] []) [v,.int .i64 (f:Int)] h (fun w H=>Ext h H∧∃ u1 u2,w=.tuple [u1,u2]∧Own encI 3 h.length H u1 (upN R f (R.L.toNat-f)).1∧Own encI 3 h.length H u2 (upN R f (R.L.toNat-f)).2):=by
 have hAe:=fun H (e:Ext h H)=>hA.ext e
 obtain ⟨fv,wv,rfl,hF,hW⟩:=hA
 have o1:=hF.one
 have o2:=hW.one
 have hL:=hR.L
 have hnW:=hR.nW
 obtain ⟨n,en⟩:=Int.eq_ofNat_of_zero_le (show 0≤R.L by omega)
 have en':R.L.toNat=n:=by omega
 obtain ⟨G0,eG0⟩:∃ G0,G0=h++[rrbB R.L fv wv]:=⟨_,rfl⟩
 have x0:Ext h G0:=by rw [eG0];exact .app .refl
 have g0:G0[h.length]?=some (rrbB R.L fv wv):=by rw [eG0];exact get_eq rfl
 have l0:G0.length=h.length+1:=by rw [eG0];simp
 obtain ⟨Z,eZ⟩:∃ Z:List Int,Z=List.replicate (n+1) 0:=⟨_,rfl⟩
 obtain ⟨G1,eG1⟩:∃ G1,G1=G0++[rowB Z 0]:=⟨_,rfl⟩
 have l1:G1.length=G0.length+1:=by rw [eG1];simp
 obtain ⟨G2,eG2⟩:∃ G2,G2=G1++[rowB Z 0]:=⟨_,rfl⟩
 have l2:G2.length=G0.length+2:=by rw [eG2];simp [l1]
 have x1:Ext G0 G1:=by rw [eG1];exact .app .refl
 have x2:Ext G1 G2:=by rw [eG2];exact .app .refl
 have gz1:G2[G0.length]?=some (rowB Z 0):=x2.get (by rw [eG1];exact get_eq rfl)
 have gz2:G2[G1.length]?=some (rowB Z 0):=by rw [eG2];exact get_eq rfl
 have mk:∀ H,makeSliceA prog H 32 (.int .i64 (R.L+1)) (.int .i64 (R.L+1))=some (.slice (some ⟨H.length,0,0⟩) (n+1) (n+1),H++[rowB Z 0]):=fun H=>by
  have:=mkI (H:=H) (n:=n+1) (by omega) (by omega)
  rw [rep_lst,← eZ] at this
  rwa [show ((n+1:Nat):Int)=R.L+1 by omega] at this
 have mk1:=mk G0
 have mk2:=mk G1
 rw [← eG1] at mk1
 rw [← eG2] at mk2
 have g01:=x1.get g0
 unfold rrbB at eG0 g0 g01
 have hU0:upN R f 0=(Z,Z):=by unfold upN;rw [en',← eZ]
 obtain ⟨i1,ei1⟩:∃ i1,i1=G0.length:=⟨_,rfl⟩
 obtain ⟨i2,ei2⟩:∃ i2,i2=G1.length:=⟨_,rfl⟩
 rw [← ei1] at mk1 gz1
 rw [← ei2] at mk2 gz2
 rw [en'] at hf ⊢
 have hne:i1 ≠ i2:=by omega
 refine ret_raw func131 rfl (by kernel_rfl) ?_
 have hsp:=@Nat.succ_ne_zero;repeat' (first|simp (disch:=first|exact dq|fail) only [go_sem,↓reduceIte,hsp,← eG0,g0,mk1,g01,mk2]|refine WP_drw ?_|refine cnd_intro (fun hsp=>?_) fun hsp=>?_)
 refine WP_count [(8,142)] f n hf (fun _ x fr K=>fr 8=.int .i64 (x:Int)∧∃ s,s=upN R f (x-f)∧Ext G0 K∧i2<K.length∧K[i1]?=some (rowB s.1 0)∧K[i2]?=some (rowB s.2 0)) ?_ ?_ ?_
 ·exact ⟨by (simp (disch:=first|exact dq|fail) only [go_sem,↓reduceIte,Int.natCast_zero];first|done|rfl),_,rfl,x1.trans x2,by omega,by rw [Nat.sub_self,hU0];exact gz1,by rw [Nat.sub_self,hU0];exact gz2⟩
 ·rintro x fr K hx0 hx hAg ⟨r8,s,es,xK,lK,gM,gC⟩
  have q2:=hAg 2 rfl
  have q4:=hAg 4 rfl
  have q5:=hAg 5 rfl
  have q6:=hAg 6 rfl
  have q7:=hAg 7 rfl
  try simp (disch:=first|exact dq|fail) only [go_sem,↓reduceIte] at q2 q4 q5 q6 q7
  have hltx:((x:Int)<R.L)=True:=eq_true (by omega)
  have hu:=(upN_ok hR (f:=f) (n:=x-f) (by omega)).1
  rw [← es,en'] at hu
  have g0K:=xK.get g0
  have iM:=ints_rowB gM (hu.s1 (by omega)) hu.l1.symm
  have iC:=ints_rowB gC (hu.s2 (by omega)) hu.l2.symm
  have am:=adrI (i:=(x:Int)) (by omega) iM (by rw [hu.l1];omega)
  have am1:=adrI (i:=(x:Int)+1) (by omega) iM (by rw [hu.l1];omega)
  have ac:=adrI (i:=(x:Int)) (by omega) iC (by rw [hu.l2];omega)
  have ac1:=adrI (i:=(x:Int)+1) (by omega) iC (by rw [hu.l2];omega)
  rw [Int.toNat_natCast] at am ac
  rw [show ((x:Int)+1).toNat=x+1 by omega] at am1 ac1
  have lm:∀ z,ldB (some (false,z)) (some (rowB s.1 0)) 0 x=some (.int .i64 (s.1.getD x 0)):=fun z=>ldB_ints (by rw [hu.l1];omega)
  have lm1:∀ z,ldB (some (false,z)) (some (rowB s.1 0)) 0 (x+1)=some (.int .i64 (s.1.getD (x+1) 0)):=fun z=>ldB_ints (by rw [hu.l1];omega)
  have lc:∀ z,ldB (some (false,z)) (some (rowB s.2 0)) 0 x=some (.int .i64 (s.2.getD x 0)):=fun z=>ldB_ints (by rw [hu.l2];omega)
  have lc1:∀ z,ldB (some (false,z)) (some (rowB s.2 0)) 0 (x+1)=some (.int .i64 (s.2.getD (x+1) 0)):=fun z=>ldB_ints (by rw [hu.l2];omega)
  obtain ⟨m0,em0⟩:∃ m0,m0=s.1.getD x 0:=⟨_,rfl⟩
  obtain ⟨m1,em1⟩:∃ m1,m1=s.1.getD (x+1) 0:=⟨_,rfl⟩
  obtain ⟨c0,ec0⟩:∃ c0,c0=s.2.getD x 0:=⟨_,rfl⟩
  obtain ⟨c1,ec1⟩:∃ c1,c1=s.2.getD (x+1) 0:=⟨_,rfl⟩
  rw [← em0] at lm
  rw [← em1] at lm1
  rw [← ec0] at lc
  rw [← ec1] at lc1
  have st1:∀ (F:ABlk→Heap),stQ base i1 (some (rowB s.1 0)) 0 (x+1) [.int .i64 m0] F=some (F (rowB (s.1.set (x+1) m0) 0)):=fun F=>by rw [stQ_row (by rw [hu.l1];omega)]
  have st2:∀ (F:ABlk→Heap),stQ base i2 (some (rowB s.2 0)) 0 (x+1) [.int .i64 c0] F=some (F (rowB (s.2.set (x+1) c0) 0)):=fun F=>by rw [stQ_row (by rw [hu.l2];omega)]
  obtain ⟨K0,eK0⟩:∃ K0,K0=K.set i1 (rowB (s.1.set (x+1) m0) 0):=⟨_,rfl⟩
  have gC0:K0[i2]?=some (rowB s.2 0):=by rw [eK0,List.getElem?_set_ne hne];exact gC
  obtain ⟨s1,es1⟩:∃ s1,s1=upS s (x+1) m0 c0:=⟨_,rfl⟩
  have hk1:=hu.one (y:=x+1) (a:=m0) (c:=c0) (by omega) (by omega) (by have:=hu.b1 x;omega) (by have:=hu.b2 x;omega)
  rw [← es1] at hk1
  obtain ⟨u1,uk1,ue1⟩:=hk1
  have ue:=ue1 x (by omega)
  rw [← em0,← ec0] at ue
  have es0:=es1
  rw [em0,ec0] at es0
  unfold upS at es1
  rw [← em1,← ec1] at es1
  by_cases w1:m0 > m1
  ·have t1:(m0 > m1)=True:=eq_true w1
   rw [if_pos (by unfold thB;rw [decide_eq_true w1];rfl)] at es1
   have t2:True:=trivial
   have t3:True:=trivial
   obtain ⟨K1,eK1⟩:∃ K1,K1=K0.set i2 (rowB (s.2.set (x+1) c0) 0):=⟨_,rfl⟩
   have xK1:Ext G0 K1:=by rw [eK1,eK0];exact (xK.set (by omega)).set (by omega)
   have lK1:i2<K1.length:=by rw [eK1,eK0,List.length_set,List.length_set];exact lK
   have gM1:K1[i1]?=some (rowB s1.1 0):=by rw [eK1,List.getElem?_set_ne (fun q=>hne q.symm),eK0,es1];exact List.getElem?_set_self (by omega)
   have gC1:K1[i2]?=some (rowB s1.2 0):=by rw [eK1,es1];exact List.getElem?_set_self (by rw [eK0,List.length_set];exact lK)
   have g0K1:=xK1.get g0
   have lK1':=xK1.len
   obtain ⟨lw,K2,e2,xK2,oA⟩:=run_rall (base:=base) (h:=K1) (x:=x) (by omega) (hAe K1 (x0.trans xK1)) hR (by omega)
   have olw:=oA.one
   have gM2:=xK2.get gM1
   have gC2:=xK2.get gC1
   have lK2:=xK2.len
   have hsp:=@Nat.succ_ne_zero;repeat' (first|simp (disch:=first|exact dq|fail) only [go_sem,↓reduceIte,hsp,r8,q2,q4,q5,q6,q7,g0K,hltx,am,am1,ac,ac1,gM,gC,lm,lm1,lc,lc1,t1,t2,t3,st1,← eK0,gC0,st2,← eK1,g0K1,e2]|refine WP_drw ?_|refine cnd_intro (fun hsp=>?_) fun hsp=>?_)
   have hcl:=cutL_len (x:=x) hR
   have hxl:x<R.L.toNat:=by omega
   refine WP_count [(10,142)] 0 (cutL R x).length (Nat.zero_le _) (fun _ j fr X=>fr 10=.int .i64 (j:Int)∧∃ t,t=((cutL R x).take j).foldl (upC x) s1∧X=(K2.set i1 (rowB t.1 0)).set i2 (rowB t.2 0)) ?_ ?_ ?_
   ·exact ⟨by (simp (disch:=first|exact dq|fail) only [go_sem,↓reduceIte,Int.natCast_zero];first|done|rfl),s1,rfl,by rw [set_id gM2,set_id gC2]⟩
   ·rintro j fr2 X hj0 hj hA2 ⟨r10,t,et,eX⟩
    have d2:=hA2 2 rfl
    have d4:=hA2 4 rfl
    have d5:=hA2 5 rfl
    have d6:=hA2 6 rfl
    have d7:=hA2 7 rfl
    have d8:=hA2 8 rfl
    have d9:=hA2 9 rfl
    try simp (disch:=first|exact dq|fail) only [go_sem,↓reduceIte,q2,q4,q5,q6,q7] at d2 d4 d5 d6 d7 d8 d9
    have d8:=hA2 8 rfl
    simp (disch:=first|exact dq|fail) only [go_sem,↓reduceIte,r8] at d8
    have hltj:((j:Int)<((cutL R x).length:Int))=True:=eq_true (by omega)
    obtain ⟨c,ec⟩:∃ c,c=(cutL R x)[j]:=⟨_,rfl⟩
    have hcj:(cutL R x)[j]?=some c:=by rw [ec];exact List.getElem?_eq_getElem hj
    have hcm:=List.mem_of_getElem? hcj
    obtain ⟨hb',hf',hw0,hw1,w,hw,ht⟩:=cutL_b hR hxl hcm
    have htb:=takL_b hR (hR.W w (List.mem_of_getElem? hw)) hxl ht
    obtain ⟨ut,-,et1,et2⟩:=upX_part hR hxl (s:=s) (by rw [en'];exact hu) ((cutL R x).take j) s1 (keyS s1) (fun c hc=>List.mem_of_mem_take hc) (by rw [en'];exact u1) (by rw [← em0];exact ue.1) (by rw [← ec0];exact ue.2) rfl
    rw [← et] at ut et1 et2
    rw [en'] at ut
    rw [← em0] at et1
    rw [← ec0] at et2
    have gMX:X[i1]?=some (rowB t.1 0):=by rw [eX,List.getElem?_set_ne (fun q=>hne q.symm)];exact List.getElem?_set_self (by omega)
    have gCX:X[i2]?=some (rowB t.2 0):=by rw [eX];exact List.getElem?_set_self (by rw [List.length_set];omega)
    have xX:Ext G0 X:=by rw [eX];exact ((xK1.trans xK2).set (by omega)).set (by omega)
    have g0X:=xX.get g0
    have oX:Own encC 129 K1.length X lw ((cutL R x).map (·.1)):=by rw [eX];exact (oA.set (by omega)).set (by omega)
    have iP:=oX.rows (by rw [List.length_map];omega)
    have hlX:=rct_len iP
    rw [List.length_map] at hlX
    have aj:=rct_ad iP (i:=j) (by rw [List.length_map];exact hj)
    have lj:=rct_ld iP (i:=j) (c:=c.1) (by rw [List.getElem?_map,hcj];rfl)
    have hal:=fun base=>run_allowed (base:=base) (j:=c.1.j) (hAe X (x0.trans xX)) hR hw hxl
    rw [ht,show ((c.1.w.toNat:Nat):Int)=c.1.w by omega,← hf'] at hal
    unfold allV at hal
    obtain ⟨e,ee⟩:∃ e,e=c.2.1.toNat:=⟨_,rfl⟩
    have hen:e≤n:=by omega
    have iM2:=ints_rowB gMX (ut.s1 (by omega)) ut.l1.symm
    have iC2:=ints_rowB gCX (ut.s2 (by omega)) ut.l2.symm
    have ae:=adrI (i:=c.2.1) (by omega) iM2 (by rw [ut.l1];omega)
    have ce:=adrI (i:=c.2.1) (by omega) iC2 (by rw [ut.l2];omega)
    rw [← ee] at ae ce
    have lmx:∀ z,ldB (some (false,z)) (some (rowB t.1 0)) 0 x=some (.int .i64 m0):=fun z=>by rw [← et1];exact ldB_ints (by rw [ut.l1];omega)
    have lcx:∀ z,ldB (some (false,z)) (some (rowB t.2 0)) 0 x=some (.int .i64 c0):=fun z=>by rw [← et2];exact ldB_ints (by rw [ut.l2];omega)
    obtain ⟨me,eme⟩:∃ me,me=t.1.getD e 0:=⟨_,rfl⟩
    obtain ⟨ke,eke⟩:∃ ke,ke=t.2.getD e 0:=⟨_,rfl⟩
    have lme:∀ z,ldB (some (false,z)) (some (rowB t.1 0)) 0 e=some (.int .i64 me):=fun z=>by rw [eme];exact ldB_ints (by rw [ut.l1];omega)
    have lce:∀ z,ldB (some (false,z)) (some (rowB t.2 0)) 0 e=some (.int .i64 ke):=fun z=>by rw [eke];exact ldB_ints (by rw [ut.l2];omega)
    have bm:=hu.b1 x
    have bc:=hu.b2 x
    rw [← em0] at bm
    rw [← ec0] at bc
    have sx1:∀ (F:ABlk→Heap),stQ base i1 (some (rowB t.1 0)) 0 e [.int .i64 (m0+c.2.2)] F=some (F (rowB (t.1.set e (m0+c.2.2)) 0)):=fun F=>by rw [stQ_row (by rw [ut.l1];omega)]
    have sx2:∀ (F:ABlk→Heap),stQ base i2 (some (rowB t.2 0)) 0 e [.int .i64 (c0+1)] F=some (F (rowB (t.2.set e (c0+1)) 0)):=fun F=>by rw [stQ_row (by rw [ut.l2];omega)]
    obtain ⟨X1,eX1⟩:∃ X1,X1=X.set i1 (rowB (t.1.set e (m0+c.2.2)) 0):=⟨_,rfl⟩
    have gC3:X1[i2]?=some (rowB t.2 0):=by rw [eX1,List.getElem?_set_ne hne];exact gCX
    have htk:((cutL R x).take (j+1)).foldl (upC x) s1=upC x t c:=by rw [List.take_add_one,hcj,List.foldl_append,← et];rfl
    have etc:upC x t c=if thB true (m0+c.2.2,c0+1) (me,ke)=true then (t.1.set e (m0+c.2.2),t.2.set e (c0+1)) else t:=by
     unfold upC upS;rw [et1,et2,← ee,← eme,← eke]
    by_cases z1:m0+c.2.2 > me
    ·have y1:(m0+c.2.2 > me)=True:=eq_true z1
     have y2:True:=trivial
     have y3:True:=trivial
     rw [if_pos (by unfold thB;rw [decide_eq_true z1];rfl)] at etc
     obtain ⟨Y,eY⟩:∃ Y,Y=X1.set i2 (rowB (t.2.set e (c0+1)) 0):=⟨_,rfl⟩
     have hsp:=@Nat.succ_ne_zero;repeat' (first|simp (disch:=first|exact dq|fail) only [go_sem,↓reduceIte,hsp,r10,d8,d2,d4,d5,d6,d7,d8,d9,q2,q4,q5,q6,q7,g0X,hltj,hlX,aj,lj,hal,am,ac,ae,ce,gMX,gCX,lmx,lcx,lme,lce,y1,y2,y3,sx1,← eX1,gC3,sx2,← eY]|refine WP_drw ?_|refine cnd_intro (fun hsp=>?_) fun hsp=>?_)
     exact ⟨agq,by omega,upC x t c,by rw [htk],by rw [eY,eX1,eX,set4 hne,etc]⟩
    ·have y1:(m0+c.2.2 > me)=False:=eq_false z1
     by_cases z2:m0+c.2.2=me
     ·have y2:(m0+c.2.2=me)=True:=eq_true z2
      by_cases z3:c0+1<ke
      ·have y3:(c0+1<ke)=True:=eq_true z3
       rw [if_pos (by unfold thB;rw [decide_eq_false z1,decide_eq_true z2,decide_eq_true z3];rfl)] at etc
       obtain ⟨Y,eY⟩:∃ Y,Y=X1.set i2 (rowB (t.2.set e (c0+1)) 0):=⟨_,rfl⟩
       have hsp:=@Nat.succ_ne_zero;repeat' (first|simp (disch:=first|exact dq|fail) only [go_sem,↓reduceIte,hsp,r10,d8,d2,d4,d5,d6,d7,d8,d9,q2,q4,q5,q6,q7,g0X,hltj,hlX,aj,lj,hal,am,ac,ae,ce,gMX,gCX,lmx,lcx,lme,lce,y1,y2,y3,sx1,← eX1,gC3,sx2,← eY]|refine WP_drw ?_|refine cnd_intro (fun hsp=>?_) fun hsp=>?_)
       exact ⟨agq,by omega,upC x t c,by rw [htk],by rw [eY,eX1,eX,set4 hne,etc]⟩
      ·have y3:(c0+1<ke)=False:=eq_false z3
       rw [if_neg (by unfold thB;rw [decide_eq_false z1,decide_eq_true z2,decide_eq_false z3];simp)] at etc
       have hsp:=@Nat.succ_ne_zero;repeat' (first|simp (disch:=first|exact dq|fail) only [go_sem,↓reduceIte,hsp,r10,d8,d2,d4,d5,d6,d7,d8,d9,q2,q4,q5,q6,q7,g0X,hltj,hlX,aj,lj,hal,am,ac,ae,ce,gMX,gCX,lmx,lcx,lme,lce,y1,y2,y3]|refine WP_drw ?_|refine cnd_intro (fun hsp=>?_) fun hsp=>?_)
       exact ⟨agq,by omega,upC x t c,by rw [htk],by rw [eX,etc]⟩
     ·have y2:(m0+c.2.2=me)=False:=eq_false z2
      have y3:True:=trivial
      rw [if_neg (by unfold thB;rw [decide_eq_false z1,decide_eq_false z2];simp)] at etc
      have hsp:=@Nat.succ_ne_zero;repeat' (first|simp (disch:=first|exact dq|fail) only [go_sem,↓reduceIte,hsp,r10,d8,d2,d4,d5,d6,d7,d8,d9,q2,q4,q5,q6,q7,g0X,hltj,hlX,aj,lj,hal,am,ac,ae,ce,gMX,gCX,lmx,lcx,lme,lce,y1,y2,y3]|refine WP_drw ?_|refine cnd_intro (fun hsp=>?_) fun hsp=>?_)
      exact ⟨agq,by omega,upC x t c,by rw [htk],by rw [eX,etc]⟩
   ·rintro fr2 X hA2 ⟨r10,t,et,eX⟩
    have d2:=hA2 2 rfl
    have d4:=hA2 4 rfl
    have d5:=hA2 5 rfl
    have d6:=hA2 6 rfl
    have d7:=hA2 7 rfl
    have d8:=hA2 8 rfl
    have d9:=hA2 9 rfl
    try simp (disch:=first|exact dq|fail) only [go_sem,↓reduceIte,q2,q4,q5,q6,q7] at d2 d4 d5 d6 d7 d8 d9
    have d8:=hA2 8 rfl
    simp (disch:=first|exact dq|fail) only [go_sem,↓reduceIte,r8] at d8
    have hltj:(((cutL R x).length:Int)<((cutL R x).length:Int))=False:=eq_false (by omega)
    rw [List.take_length] at et
    have gMX:X[i1]?=some (rowB t.1 0):=by rw [eX,List.getElem?_set_ne (fun q=>hne q.symm)];exact List.getElem?_set_self (by omega)
    have gCX:X[i2]?=some (rowB t.2 0):=by rw [eX];exact List.getElem?_set_self (by rw [List.length_set];omega)
    have xX:Ext G0 X:=by rw [eX];exact ((xK1.trans xK2).set (by omega)).set (by omega)
    have g0X:=xX.get g0
    have oX:Own encC 129 K1.length X lw ((cutL R x).map (·.1)):=by rw [eX];exact (oA.set (by omega)).set (by omega)
    have iP:=oX.rows (by rw [List.length_map];omega)
    have hlX:=rct_len iP
    rw [List.length_map] at hlX
    have lX:i2<X.length:=by rw [eX,List.length_set,List.length_set];omega
    have hsp:=@Nat.succ_ne_zero;repeat' (first|simp (disch:=first|exact dq|fail) only [go_sem,↓reduceIte,hsp,r10,d8,d2,d4,d5,d6,d7,d8,d9,q2,q4,q5,q6,q7,hltj,hlX]|refine WP_drw ?_|refine cnd_intro (fun hsp=>?_) fun hsp=>?_)
    refine ⟨agq,by omega,t,?_,xX,lX,gMX,gCX⟩
    rw [et,es0,show x+1-f=(x-f)+1 by omega,upN,← es,show f+(x-f)=x by omega];rfl
  ·have t1:(m0 > m1)=False:=eq_false w1
   by_cases w2:m0=m1
   ·have t2:(m0=m1)=True:=eq_true w2
    by_cases w3:c0<c1
    ·have t3:(c0<c1)=True:=eq_true w3
     rw [if_pos (by unfold thB;rw [decide_eq_false w1,decide_eq_true w2,decide_eq_true w3];rfl)] at es1
     obtain ⟨K1,eK1⟩:∃ K1,K1=K0.set i2 (rowB (s.2.set (x+1) c0) 0):=⟨_,rfl⟩
     have xK1:Ext G0 K1:=by rw [eK1,eK0];exact (xK.set (by omega)).set (by omega)
     have lK1:i2<K1.length:=by rw [eK1,eK0,List.length_set,List.length_set];exact lK
     have gM1:K1[i1]?=some (rowB s1.1 0):=by rw [eK1,List.getElem?_set_ne (fun q=>hne q.symm),eK0,es1];exact List.getElem?_set_self (by omega)
     have gC1:K1[i2]?=some (rowB s1.2 0):=by rw [eK1,es1];exact List.getElem?_set_self (by rw [eK0,List.length_set];exact lK)
     have g0K1:=xK1.get g0
     have lK1':=xK1.len
     obtain ⟨lw,K2,e2,xK2,oA⟩:=run_rall (base:=base) (h:=K1) (x:=x) (by omega) (hAe K1 (x0.trans xK1)) hR (by omega)
     have olw:=oA.one
     have gM2:=xK2.get gM1
     have gC2:=xK2.get gC1
     have lK2:=xK2.len
     have hsp:=@Nat.succ_ne_zero;repeat' (first|simp (disch:=first|exact dq|fail) only [go_sem,↓reduceIte,hsp,r8,q2,q4,q5,q6,q7,g0K,hltx,am,am1,ac,ac1,gM,gC,lm,lm1,lc,lc1,t1,t2,t3,st1,← eK0,gC0,st2,← eK1,g0K1,e2]|refine WP_drw ?_|refine cnd_intro (fun hsp=>?_) fun hsp=>?_)
     have hcl:=cutL_len (x:=x) hR
     have hxl:x<R.L.toNat:=by omega
     refine WP_count [(10,142)] 0 (cutL R x).length (Nat.zero_le _) (fun _ j fr X=>fr 10=.int .i64 (j:Int)∧∃ t,t=((cutL R x).take j).foldl (upC x) s1∧X=(K2.set i1 (rowB t.1 0)).set i2 (rowB t.2 0)) ?_ ?_ ?_
     ·exact ⟨by (simp (disch:=first|exact dq|fail) only [go_sem,↓reduceIte,Int.natCast_zero];first|done|rfl),s1,rfl,by rw [set_id gM2,set_id gC2]⟩
     ·rintro j fr2 X hj0 hj hA2 ⟨r10,t,et,eX⟩
      have d2:=hA2 2 rfl
      have d4:=hA2 4 rfl
      have d5:=hA2 5 rfl
      have d6:=hA2 6 rfl
      have d7:=hA2 7 rfl
      have d8:=hA2 8 rfl
      have d9:=hA2 9 rfl
      try simp (disch:=first|exact dq|fail) only [go_sem,↓reduceIte,q2,q4,q5,q6,q7] at d2 d4 d5 d6 d7 d8 d9
      have d8:=hA2 8 rfl
      simp (disch:=first|exact dq|fail) only [go_sem,↓reduceIte,r8] at d8
      have hltj:((j:Int)<((cutL R x).length:Int))=True:=eq_true (by omega)
      obtain ⟨c,ec⟩:∃ c,c=(cutL R x)[j]:=⟨_,rfl⟩
      have hcj:(cutL R x)[j]?=some c:=by rw [ec];exact List.getElem?_eq_getElem hj
      have hcm:=List.mem_of_getElem? hcj
      obtain ⟨hb',hf',hw0,hw1,w,hw,ht⟩:=cutL_b hR hxl hcm
      have htb:=takL_b hR (hR.W w (List.mem_of_getElem? hw)) hxl ht
      obtain ⟨ut,-,et1,et2⟩:=upX_part hR hxl (s:=s) (by rw [en'];exact hu) ((cutL R x).take j) s1 (keyS s1) (fun c hc=>List.mem_of_mem_take hc) (by rw [en'];exact u1) (by rw [← em0];exact ue.1) (by rw [← ec0];exact ue.2) rfl
      rw [← et] at ut et1 et2
      rw [en'] at ut
      rw [← em0] at et1
      rw [← ec0] at et2
      have gMX:X[i1]?=some (rowB t.1 0):=by rw [eX,List.getElem?_set_ne (fun q=>hne q.symm)];exact List.getElem?_set_self (by omega)
      have gCX:X[i2]?=some (rowB t.2 0):=by rw [eX];exact List.getElem?_set_self (by rw [List.length_set];omega)
      have xX:Ext G0 X:=by rw [eX];exact ((xK1.trans xK2).set (by omega)).set (by omega)
      have g0X:=xX.get g0
      have oX:Own encC 129 K1.length X lw ((cutL R x).map (·.1)):=by rw [eX];exact (oA.set (by omega)).set (by omega)
      have iP:=oX.rows (by rw [List.length_map];omega)
      have hlX:=rct_len iP
      rw [List.length_map] at hlX
      have aj:=rct_ad iP (i:=j) (by rw [List.length_map];exact hj)
      have lj:=rct_ld iP (i:=j) (c:=c.1) (by rw [List.getElem?_map,hcj];rfl)
      have hal:=fun base=>run_allowed (base:=base) (j:=c.1.j) (hAe X (x0.trans xX)) hR hw hxl
      rw [ht,show ((c.1.w.toNat:Nat):Int)=c.1.w by omega,← hf'] at hal
      unfold allV at hal
      obtain ⟨e,ee⟩:∃ e,e=c.2.1.toNat:=⟨_,rfl⟩
      have hen:e≤n:=by omega
      have iM2:=ints_rowB gMX (ut.s1 (by omega)) ut.l1.symm
      have iC2:=ints_rowB gCX (ut.s2 (by omega)) ut.l2.symm
      have ae:=adrI (i:=c.2.1) (by omega) iM2 (by rw [ut.l1];omega)
      have ce:=adrI (i:=c.2.1) (by omega) iC2 (by rw [ut.l2];omega)
      rw [← ee] at ae ce
      have lmx:∀ z,ldB (some (false,z)) (some (rowB t.1 0)) 0 x=some (.int .i64 m0):=fun z=>by rw [← et1];exact ldB_ints (by rw [ut.l1];omega)
      have lcx:∀ z,ldB (some (false,z)) (some (rowB t.2 0)) 0 x=some (.int .i64 c0):=fun z=>by rw [← et2];exact ldB_ints (by rw [ut.l2];omega)
      obtain ⟨me,eme⟩:∃ me,me=t.1.getD e 0:=⟨_,rfl⟩
      obtain ⟨ke,eke⟩:∃ ke,ke=t.2.getD e 0:=⟨_,rfl⟩
      have lme:∀ z,ldB (some (false,z)) (some (rowB t.1 0)) 0 e=some (.int .i64 me):=fun z=>by rw [eme];exact ldB_ints (by rw [ut.l1];omega)
      have lce:∀ z,ldB (some (false,z)) (some (rowB t.2 0)) 0 e=some (.int .i64 ke):=fun z=>by rw [eke];exact ldB_ints (by rw [ut.l2];omega)
      have bm:=hu.b1 x
      have bc:=hu.b2 x
      rw [← em0] at bm
      rw [← ec0] at bc
      have sx1:∀ (F:ABlk→Heap),stQ base i1 (some (rowB t.1 0)) 0 e [.int .i64 (m0+c.2.2)] F=some (F (rowB (t.1.set e (m0+c.2.2)) 0)):=fun F=>by rw [stQ_row (by rw [ut.l1];omega)]
      have sx2:∀ (F:ABlk→Heap),stQ base i2 (some (rowB t.2 0)) 0 e [.int .i64 (c0+1)] F=some (F (rowB (t.2.set e (c0+1)) 0)):=fun F=>by rw [stQ_row (by rw [ut.l2];omega)]
      obtain ⟨X1,eX1⟩:∃ X1,X1=X.set i1 (rowB (t.1.set e (m0+c.2.2)) 0):=⟨_,rfl⟩
      have gC3:X1[i2]?=some (rowB t.2 0):=by rw [eX1,List.getElem?_set_ne hne];exact gCX
      have htk:((cutL R x).take (j+1)).foldl (upC x) s1=upC x t c:=by rw [List.take_add_one,hcj,List.foldl_append,← et];rfl
      have etc:upC x t c=if thB true (m0+c.2.2,c0+1) (me,ke)=true then (t.1.set e (m0+c.2.2),t.2.set e (c0+1)) else t:=by
       unfold upC upS;rw [et1,et2,← ee,← eme,← eke]
      by_cases z1:m0+c.2.2 > me
      ·have y1:(m0+c.2.2 > me)=True:=eq_true z1
       have y2:True:=trivial
       have y3:True:=trivial
       rw [if_pos (by unfold thB;rw [decide_eq_true z1];rfl)] at etc
       obtain ⟨Y,eY⟩:∃ Y,Y=X1.set i2 (rowB (t.2.set e (c0+1)) 0):=⟨_,rfl⟩
       have hsp:=@Nat.succ_ne_zero;repeat' (first|simp (disch:=first|exact dq|fail) only [go_sem,↓reduceIte,hsp,r10,d8,d2,d4,d5,d6,d7,d8,d9,q2,q4,q5,q6,q7,g0X,hltj,hlX,aj,lj,hal,am,ac,ae,ce,gMX,gCX,lmx,lcx,lme,lce,y1,y2,y3,sx1,← eX1,gC3,sx2,← eY]|refine WP_drw ?_|refine cnd_intro (fun hsp=>?_) fun hsp=>?_)
       exact ⟨agq,by omega,upC x t c,by rw [htk],by rw [eY,eX1,eX,set4 hne,etc]⟩
      ·have y1:(m0+c.2.2 > me)=False:=eq_false z1
       by_cases z2:m0+c.2.2=me
       ·have y2:(m0+c.2.2=me)=True:=eq_true z2
        by_cases z3:c0+1<ke
        ·have y3:(c0+1<ke)=True:=eq_true z3
         rw [if_pos (by unfold thB;rw [decide_eq_false z1,decide_eq_true z2,decide_eq_true z3];rfl)] at etc
         obtain ⟨Y,eY⟩:∃ Y,Y=X1.set i2 (rowB (t.2.set e (c0+1)) 0):=⟨_,rfl⟩
         have hsp:=@Nat.succ_ne_zero;repeat' (first|simp (disch:=first|exact dq|fail) only [go_sem,↓reduceIte,hsp,r10,d8,d2,d4,d5,d6,d7,d8,d9,q2,q4,q5,q6,q7,g0X,hltj,hlX,aj,lj,hal,am,ac,ae,ce,gMX,gCX,lmx,lcx,lme,lce,y1,y2,y3,sx1,← eX1,gC3,sx2,← eY]|refine WP_drw ?_|refine cnd_intro (fun hsp=>?_) fun hsp=>?_)
         exact ⟨agq,by omega,upC x t c,by rw [htk],by rw [eY,eX1,eX,set4 hne,etc]⟩
        ·have y3:(c0+1<ke)=False:=eq_false z3
         rw [if_neg (by unfold thB;rw [decide_eq_false z1,decide_eq_true z2,decide_eq_false z3];simp)] at etc
         have hsp:=@Nat.succ_ne_zero;repeat' (first|simp (disch:=first|exact dq|fail) only [go_sem,↓reduceIte,hsp,r10,d8,d2,d4,d5,d6,d7,d8,d9,q2,q4,q5,q6,q7,g0X,hltj,hlX,aj,lj,hal,am,ac,ae,ce,gMX,gCX,lmx,lcx,lme,lce,y1,y2,y3]|refine WP_drw ?_|refine cnd_intro (fun hsp=>?_) fun hsp=>?_)
         exact ⟨agq,by omega,upC x t c,by rw [htk],by rw [eX,etc]⟩
       ·have y2:(m0+c.2.2=me)=False:=eq_false z2
        have y3:True:=trivial
        rw [if_neg (by unfold thB;rw [decide_eq_false z1,decide_eq_false z2];simp)] at etc
        have hsp:=@Nat.succ_ne_zero;repeat' (first|simp (disch:=first|exact dq|fail) only [go_sem,↓reduceIte,hsp,r10,d8,d2,d4,d5,d6,d7,d8,d9,q2,q4,q5,q6,q7,g0X,hltj,hlX,aj,lj,hal,am,ac,ae,ce,gMX,gCX,lmx,lcx,lme,lce,y1,y2,y3]|refine WP_drw ?_|refine cnd_intro (fun hsp=>?_) fun hsp=>?_)
        exact ⟨agq,by omega,upC x t c,by rw [htk],by rw [eX,etc]⟩
     ·rintro fr2 X hA2 ⟨r10,t,et,eX⟩
      have d2:=hA2 2 rfl
      have d4:=hA2 4 rfl
      have d5:=hA2 5 rfl
      have d6:=hA2 6 rfl
      have d7:=hA2 7 rfl
      have d8:=hA2 8 rfl
      have d9:=hA2 9 rfl
      try simp (disch:=first|exact dq|fail) only [go_sem,↓reduceIte,q2,q4,q5,q6,q7] at d2 d4 d5 d6 d7 d8 d9
      have d8:=hA2 8 rfl
      simp (disch:=first|exact dq|fail) only [go_sem,↓reduceIte,r8] at d8
      have hltj:(((cutL R x).length:Int)<((cutL R x).length:Int))=False:=eq_false (by omega)
      rw [List.take_length] at et
      have gMX:X[i1]?=some (rowB t.1 0):=by rw [eX,List.getElem?_set_ne (fun q=>hne q.symm)];exact List.getElem?_set_self (by omega)
      have gCX:X[i2]?=some (rowB t.2 0):=by rw [eX];exact List.getElem?_set_self (by rw [List.length_set];omega)
      have xX:Ext G0 X:=by rw [eX];exact ((xK1.trans xK2).set (by omega)).set (by omega)
      have g0X:=xX.get g0
      have oX:Own encC 129 K1.length X lw ((cutL R x).map (·.1)):=by rw [eX];exact (oA.set (by omega)).set (by omega)
      have iP:=oX.rows (by rw [List.length_map];omega)
      have hlX:=rct_len iP
      rw [List.length_map] at hlX
      have lX:i2<X.length:=by rw [eX,List.length_set,List.length_set];omega
      have hsp:=@Nat.succ_ne_zero;repeat' (first|simp (disch:=first|exact dq|fail) only [go_sem,↓reduceIte,hsp,r10,d8,d2,d4,d5,d6,d7,d8,d9,q2,q4,q5,q6,q7,hltj,hlX]|refine WP_drw ?_|refine cnd_intro (fun hsp=>?_) fun hsp=>?_)
      refine ⟨agq,by omega,t,?_,xX,lX,gMX,gCX⟩
      rw [et,es0,show x+1-f=(x-f)+1 by omega,upN,← es,show f+(x-f)=x by omega];rfl
    ·have t3:(c0<c1)=False:=eq_false w3
     rw [if_neg (by unfold thB;rw [decide_eq_false w1,decide_eq_true w2,decide_eq_false w3];simp)] at es1
     obtain ⟨K1,eK1⟩:∃ K1,K1=K:=⟨_,rfl⟩
     subst eK1
     have xK1:=xK
     have lK1:=lK
     have gM1:K1[i1]?=some (rowB s1.1 0):=by rw [es1];exact gM
     have gC1:K1[i2]?=some (rowB s1.2 0):=by rw [es1];exact gC
     have g0K1:=xK1.get g0
     have lK1':=xK1.len
     obtain ⟨lw,K2,e2,xK2,oA⟩:=run_rall (base:=base) (h:=K1) (x:=x) (by omega) (hAe K1 (x0.trans xK1)) hR (by omega)
     have olw:=oA.one
     have gM2:=xK2.get gM1
     have gC2:=xK2.get gC1
     have lK2:=xK2.len
     have hsp:=@Nat.succ_ne_zero;repeat' (first|simp (disch:=first|exact dq|fail) only [go_sem,↓reduceIte,hsp,r8,q2,q4,q5,q6,q7,g0K,hltx,am,am1,ac,ac1,gM,gC,lm,lm1,lc,lc1,t1,t2,t3,g0K1,e2]|refine WP_drw ?_|refine cnd_intro (fun hsp=>?_) fun hsp=>?_)
     have hcl:=cutL_len (x:=x) hR
     have hxl:x<R.L.toNat:=by omega
     refine WP_count [(10,142)] 0 (cutL R x).length (Nat.zero_le _) (fun _ j fr X=>fr 10=.int .i64 (j:Int)∧∃ t,t=((cutL R x).take j).foldl (upC x) s1∧X=(K2.set i1 (rowB t.1 0)).set i2 (rowB t.2 0)) ?_ ?_ ?_
     ·exact ⟨by (simp (disch:=first|exact dq|fail) only [go_sem,↓reduceIte,Int.natCast_zero];first|done|rfl),s1,rfl,by rw [set_id gM2,set_id gC2]⟩
     ·rintro j fr2 X hj0 hj hA2 ⟨r10,t,et,eX⟩
      have d2:=hA2 2 rfl
      have d4:=hA2 4 rfl
      have d5:=hA2 5 rfl
      have d6:=hA2 6 rfl
      have d7:=hA2 7 rfl
      have d8:=hA2 8 rfl
      have d9:=hA2 9 rfl
      try simp (disch:=first|exact dq|fail) only [go_sem,↓reduceIte,q2,q4,q5,q6,q7] at d2 d4 d5 d6 d7 d8 d9
      have d8:=hA2 8 rfl
      simp (disch:=first|exact dq|fail) only [go_sem,↓reduceIte,r8] at d8
      have hltj:((j:Int)<((cutL R x).length:Int))=True:=eq_true (by omega)
      obtain ⟨c,ec⟩:∃ c,c=(cutL R x)[j]:=⟨_,rfl⟩
      have hcj:(cutL R x)[j]?=some c:=by rw [ec];exact List.getElem?_eq_getElem hj
      have hcm:=List.mem_of_getElem? hcj
      obtain ⟨hb',hf',hw0,hw1,w,hw,ht⟩:=cutL_b hR hxl hcm
      have htb:=takL_b hR (hR.W w (List.mem_of_getElem? hw)) hxl ht
      obtain ⟨ut,-,et1,et2⟩:=upX_part hR hxl (s:=s) (by rw [en'];exact hu) ((cutL R x).take j) s1 (keyS s1) (fun c hc=>List.mem_of_mem_take hc) (by rw [en'];exact u1) (by rw [← em0];exact ue.1) (by rw [← ec0];exact ue.2) rfl
      rw [← et] at ut et1 et2
      rw [en'] at ut
      rw [← em0] at et1
      rw [← ec0] at et2
      have gMX:X[i1]?=some (rowB t.1 0):=by rw [eX,List.getElem?_set_ne (fun q=>hne q.symm)];exact List.getElem?_set_self (by omega)
      have gCX:X[i2]?=some (rowB t.2 0):=by rw [eX];exact List.getElem?_set_self (by rw [List.length_set];omega)
      have xX:Ext G0 X:=by rw [eX];exact ((xK1.trans xK2).set (by omega)).set (by omega)
      have g0X:=xX.get g0
      have oX:Own encC 129 K1.length X lw ((cutL R x).map (·.1)):=by rw [eX];exact (oA.set (by omega)).set (by omega)
      have iP:=oX.rows (by rw [List.length_map];omega)
      have hlX:=rct_len iP
      rw [List.length_map] at hlX
      have aj:=rct_ad iP (i:=j) (by rw [List.length_map];exact hj)
      have lj:=rct_ld iP (i:=j) (c:=c.1) (by rw [List.getElem?_map,hcj];rfl)
      have hal:=fun base=>run_allowed (base:=base) (j:=c.1.j) (hAe X (x0.trans xX)) hR hw hxl
      rw [ht,show ((c.1.w.toNat:Nat):Int)=c.1.w by omega,← hf'] at hal
      unfold allV at hal
      obtain ⟨e,ee⟩:∃ e,e=c.2.1.toNat:=⟨_,rfl⟩
      have hen:e≤n:=by omega
      have iM2:=ints_rowB gMX (ut.s1 (by omega)) ut.l1.symm
      have iC2:=ints_rowB gCX (ut.s2 (by omega)) ut.l2.symm
      have ae:=adrI (i:=c.2.1) (by omega) iM2 (by rw [ut.l1];omega)
      have ce:=adrI (i:=c.2.1) (by omega) iC2 (by rw [ut.l2];omega)
      rw [← ee] at ae ce
      have lmx:∀ z,ldB (some (false,z)) (some (rowB t.1 0)) 0 x=some (.int .i64 m0):=fun z=>by rw [← et1];exact ldB_ints (by rw [ut.l1];omega)
      have lcx:∀ z,ldB (some (false,z)) (some (rowB t.2 0)) 0 x=some (.int .i64 c0):=fun z=>by rw [← et2];exact ldB_ints (by rw [ut.l2];omega)
      obtain ⟨me,eme⟩:∃ me,me=t.1.getD e 0:=⟨_,rfl⟩
      obtain ⟨ke,eke⟩:∃ ke,ke=t.2.getD e 0:=⟨_,rfl⟩
      have lme:∀ z,ldB (some (false,z)) (some (rowB t.1 0)) 0 e=some (.int .i64 me):=fun z=>by rw [eme];exact ldB_ints (by rw [ut.l1];omega)
      have lce:∀ z,ldB (some (false,z)) (some (rowB t.2 0)) 0 e=some (.int .i64 ke):=fun z=>by rw [eke];exact ldB_ints (by rw [ut.l2];omega)
      have bm:=hu.b1 x
      have bc:=hu.b2 x
      rw [← em0] at bm
      rw [← ec0] at bc
      have sx1:∀ (F:ABlk→Heap),stQ base i1 (some (rowB t.1 0)) 0 e [.int .i64 (m0+c.2.2)] F=some (F (rowB (t.1.set e (m0+c.2.2)) 0)):=fun F=>by rw [stQ_row (by rw [ut.l1];omega)]
      have sx2:∀ (F:ABlk→Heap),stQ base i2 (some (rowB t.2 0)) 0 e [.int .i64 (c0+1)] F=some (F (rowB (t.2.set e (c0+1)) 0)):=fun F=>by rw [stQ_row (by rw [ut.l2];omega)]
      obtain ⟨X1,eX1⟩:∃ X1,X1=X.set i1 (rowB (t.1.set e (m0+c.2.2)) 0):=⟨_,rfl⟩
      have gC3:X1[i2]?=some (rowB t.2 0):=by rw [eX1,List.getElem?_set_ne hne];exact gCX
      have htk:((cutL R x).take (j+1)).foldl (upC x) s1=upC x t c:=by rw [List.take_add_one,hcj,List.foldl_append,← et];rfl
      have etc:upC x t c=if thB true (m0+c.2.2,c0+1) (me,ke)=true then (t.1.set e (m0+c.2.2),t.2.set e (c0+1)) else t:=by
       unfold upC upS;rw [et1,et2,← ee,← eme,← eke]
      by_cases z1:m0+c.2.2 > me
      ·have y1:(m0+c.2.2 > me)=True:=eq_true z1
       have y2:True:=trivial
       have y3:True:=trivial
       rw [if_pos (by unfold thB;rw [decide_eq_true z1];rfl)] at etc
       obtain ⟨Y,eY⟩:∃ Y,Y=X1.set i2 (rowB (t.2.set e (c0+1)) 0):=⟨_,rfl⟩
       have hsp:=@Nat.succ_ne_zero;repeat' (first|simp (disch:=first|exact dq|fail) only [go_sem,↓reduceIte,hsp,r10,d8,d2,d4,d5,d6,d7,d8,d9,q2,q4,q5,q6,q7,g0X,hltj,hlX,aj,lj,hal,am,ac,ae,ce,gMX,gCX,lmx,lcx,lme,lce,y1,y2,y3,sx1,← eX1,gC3,sx2,← eY]|refine WP_drw ?_|refine cnd_intro (fun hsp=>?_) fun hsp=>?_)
       exact ⟨agq,by omega,upC x t c,by rw [htk],by rw [eY,eX1,eX,set4 hne,etc]⟩
      ·have y1:(m0+c.2.2 > me)=False:=eq_false z1
       by_cases z2:m0+c.2.2=me
       ·have y2:(m0+c.2.2=me)=True:=eq_true z2
        by_cases z3:c0+1<ke
        ·have y3:(c0+1<ke)=True:=eq_true z3
         rw [if_pos (by unfold thB;rw [decide_eq_false z1,decide_eq_true z2,decide_eq_true z3];rfl)] at etc
         obtain ⟨Y,eY⟩:∃ Y,Y=X1.set i2 (rowB (t.2.set e (c0+1)) 0):=⟨_,rfl⟩
         have hsp:=@Nat.succ_ne_zero;repeat' (first|simp (disch:=first|exact dq|fail) only [go_sem,↓reduceIte,hsp,r10,d8,d2,d4,d5,d6,d7,d8,d9,q2,q4,q5,q6,q7,g0X,hltj,hlX,aj,lj,hal,am,ac,ae,ce,gMX,gCX,lmx,lcx,lme,lce,y1,y2,y3,sx1,← eX1,gC3,sx2,← eY]|refine WP_drw ?_|refine cnd_intro (fun hsp=>?_) fun hsp=>?_)
         exact ⟨agq,by omega,upC x t c,by rw [htk],by rw [eY,eX1,eX,set4 hne,etc]⟩
        ·have y3:(c0+1<ke)=False:=eq_false z3
         rw [if_neg (by unfold thB;rw [decide_eq_false z1,decide_eq_true z2,decide_eq_false z3];simp)] at etc
         have hsp:=@Nat.succ_ne_zero;repeat' (first|simp (disch:=first|exact dq|fail) only [go_sem,↓reduceIte,hsp,r10,d8,d2,d4,d5,d6,d7,d8,d9,q2,q4,q5,q6,q7,g0X,hltj,hlX,aj,lj,hal,am,ac,ae,ce,gMX,gCX,lmx,lcx,lme,lce,y1,y2,y3]|refine WP_drw ?_|refine cnd_intro (fun hsp=>?_) fun hsp=>?_)
         exact ⟨agq,by omega,upC x t c,by rw [htk],by rw [eX,etc]⟩
       ·have y2:(m0+c.2.2=me)=False:=eq_false z2
        have y3:True:=trivial
        rw [if_neg (by unfold thB;rw [decide_eq_false z1,decide_eq_false z2];simp)] at etc
        have hsp:=@Nat.succ_ne_zero;repeat' (first|simp (disch:=first|exact dq|fail) only [go_sem,↓reduceIte,hsp,r10,d8,d2,d4,d5,d6,d7,d8,d9,q2,q4,q5,q6,q7,g0X,hltj,hlX,aj,lj,hal,am,ac,ae,ce,gMX,gCX,lmx,lcx,lme,lce,y1,y2,y3]|refine WP_drw ?_|refine cnd_intro (fun hsp=>?_) fun hsp=>?_)
        exact ⟨agq,by omega,upC x t c,by rw [htk],by rw [eX,etc]⟩
     ·rintro fr2 X hA2 ⟨r10,t,et,eX⟩
      have d2:=hA2 2 rfl
      have d4:=hA2 4 rfl
      have d5:=hA2 5 rfl
      have d6:=hA2 6 rfl
      have d7:=hA2 7 rfl
      have d8:=hA2 8 rfl
      have d9:=hA2 9 rfl
      try simp (disch:=first|exact dq|fail) only [go_sem,↓reduceIte,q2,q4,q5,q6,q7] at d2 d4 d5 d6 d7 d8 d9
      have d8:=hA2 8 rfl
      simp (disch:=first|exact dq|fail) only [go_sem,↓reduceIte,r8] at d8
      have hltj:(((cutL R x).length:Int)<((cutL R x).length:Int))=False:=eq_false (by omega)
      rw [List.take_length] at et
      have gMX:X[i1]?=some (rowB t.1 0):=by rw [eX,List.getElem?_set_ne (fun q=>hne q.symm)];exact List.getElem?_set_self (by omega)
      have gCX:X[i2]?=some (rowB t.2 0):=by rw [eX];exact List.getElem?_set_self (by rw [List.length_set];omega)
      have xX:Ext G0 X:=by rw [eX];exact ((xK1.trans xK2).set (by omega)).set (by omega)
      have g0X:=xX.get g0
      have oX:Own encC 129 K1.length X lw ((cutL R x).map (·.1)):=by rw [eX];exact (oA.set (by omega)).set (by omega)
      have iP:=oX.rows (by rw [List.length_map];omega)
      have hlX:=rct_len iP
      rw [List.length_map] at hlX
      have lX:i2<X.length:=by rw [eX,List.length_set,List.length_set];omega
      have hsp:=@Nat.succ_ne_zero;repeat' (first|simp (disch:=first|exact dq|fail) only [go_sem,↓reduceIte,hsp,r10,d8,d2,d4,d5,d6,d7,d8,d9,q2,q4,q5,q6,q7,hltj,hlX]|refine WP_drw ?_|refine cnd_intro (fun hsp=>?_) fun hsp=>?_)
      refine ⟨agq,by omega,t,?_,xX,lX,gMX,gCX⟩
      rw [et,es0,show x+1-f=(x-f)+1 by omega,upN,← es,show f+(x-f)=x by omega];rfl
   ·have t2:(m0=m1)=False:=eq_false w2
    have t3:True:=trivial
    rw [if_neg (by unfold thB;rw [decide_eq_false w1,decide_eq_false w2];simp)] at es1
    obtain ⟨K1,eK1⟩:∃ K1,K1=K:=⟨_,rfl⟩
    subst eK1
    have xK1:=xK
    have lK1:=lK
    have gM1:K1[i1]?=some (rowB s1.1 0):=by rw [es1];exact gM
    have gC1:K1[i2]?=some (rowB s1.2 0):=by rw [es1];exact gC
    have g0K1:=xK1.get g0
    have lK1':=xK1.len
    obtain ⟨lw,K2,e2,xK2,oA⟩:=run_rall (base:=base) (h:=K1) (x:=x) (by omega) (hAe K1 (x0.trans xK1)) hR (by omega)
    have olw:=oA.one
    have gM2:=xK2.get gM1
    have gC2:=xK2.get gC1
    have lK2:=xK2.len
    have hsp:=@Nat.succ_ne_zero;repeat' (first|simp (disch:=first|exact dq|fail) only [go_sem,↓reduceIte,hsp,r8,q2,q4,q5,q6,q7,g0K,hltx,am,am1,ac,ac1,gM,gC,lm,lm1,lc,lc1,t1,t2,t3,g0K1,e2]|refine WP_drw ?_|refine cnd_intro (fun hsp=>?_) fun hsp=>?_)
    have hcl:=cutL_len (x:=x) hR
    have hxl:x<R.L.toNat:=by omega
    refine WP_count [(10,142)] 0 (cutL R x).length (Nat.zero_le _) (fun _ j fr X=>fr 10=.int .i64 (j:Int)∧∃ t,t=((cutL R x).take j).foldl (upC x) s1∧X=(K2.set i1 (rowB t.1 0)).set i2 (rowB t.2 0)) ?_ ?_ ?_
    ·exact ⟨by (simp (disch:=first|exact dq|fail) only [go_sem,↓reduceIte,Int.natCast_zero];first|done|rfl),s1,rfl,by rw [set_id gM2,set_id gC2]⟩
    ·rintro j fr2 X hj0 hj hA2 ⟨r10,t,et,eX⟩
     have d2:=hA2 2 rfl
     have d4:=hA2 4 rfl
     have d5:=hA2 5 rfl
     have d6:=hA2 6 rfl
     have d7:=hA2 7 rfl
     have d8:=hA2 8 rfl
     have d9:=hA2 9 rfl
     try simp (disch:=first|exact dq|fail) only [go_sem,↓reduceIte,q2,q4,q5,q6,q7] at d2 d4 d5 d6 d7 d8 d9
     have d8:=hA2 8 rfl
     simp (disch:=first|exact dq|fail) only [go_sem,↓reduceIte,r8] at d8
     have hltj:((j:Int)<((cutL R x).length:Int))=True:=eq_true (by omega)
     obtain ⟨c,ec⟩:∃ c,c=(cutL R x)[j]:=⟨_,rfl⟩
     have hcj:(cutL R x)[j]?=some c:=by rw [ec];exact List.getElem?_eq_getElem hj
     have hcm:=List.mem_of_getElem? hcj
     obtain ⟨hb',hf',hw0,hw1,w,hw,ht⟩:=cutL_b hR hxl hcm
     have htb:=takL_b hR (hR.W w (List.mem_of_getElem? hw)) hxl ht
     obtain ⟨ut,-,et1,et2⟩:=upX_part hR hxl (s:=s) (by rw [en'];exact hu) ((cutL R x).take j) s1 (keyS s1) (fun c hc=>List.mem_of_mem_take hc) (by rw [en'];exact u1) (by rw [← em0];exact ue.1) (by rw [← ec0];exact ue.2) rfl
     rw [← et] at ut et1 et2
     rw [en'] at ut
     rw [← em0] at et1
     rw [← ec0] at et2
     have gMX:X[i1]?=some (rowB t.1 0):=by rw [eX,List.getElem?_set_ne (fun q=>hne q.symm)];exact List.getElem?_set_self (by omega)
     have gCX:X[i2]?=some (rowB t.2 0):=by rw [eX];exact List.getElem?_set_self (by rw [List.length_set];omega)
     have xX:Ext G0 X:=by rw [eX];exact ((xK1.trans xK2).set (by omega)).set (by omega)
     have g0X:=xX.get g0
     have oX:Own encC 129 K1.length X lw ((cutL R x).map (·.1)):=by rw [eX];exact (oA.set (by omega)).set (by omega)
     have iP:=oX.rows (by rw [List.length_map];omega)
     have hlX:=rct_len iP
     rw [List.length_map] at hlX
     have aj:=rct_ad iP (i:=j) (by rw [List.length_map];exact hj)
     have lj:=rct_ld iP (i:=j) (c:=c.1) (by rw [List.getElem?_map,hcj];rfl)
     have hal:=fun base=>run_allowed (base:=base) (j:=c.1.j) (hAe X (x0.trans xX)) hR hw hxl
     rw [ht,show ((c.1.w.toNat:Nat):Int)=c.1.w by omega,← hf'] at hal
     unfold allV at hal
     obtain ⟨e,ee⟩:∃ e,e=c.2.1.toNat:=⟨_,rfl⟩
     have hen:e≤n:=by omega
     have iM2:=ints_rowB gMX (ut.s1 (by omega)) ut.l1.symm
     have iC2:=ints_rowB gCX (ut.s2 (by omega)) ut.l2.symm
     have ae:=adrI (i:=c.2.1) (by omega) iM2 (by rw [ut.l1];omega)
     have ce:=adrI (i:=c.2.1) (by omega) iC2 (by rw [ut.l2];omega)
     rw [← ee] at ae ce
     have lmx:∀ z,ldB (some (false,z)) (some (rowB t.1 0)) 0 x=some (.int .i64 m0):=fun z=>by rw [← et1];exact ldB_ints (by rw [ut.l1];omega)
     have lcx:∀ z,ldB (some (false,z)) (some (rowB t.2 0)) 0 x=some (.int .i64 c0):=fun z=>by rw [← et2];exact ldB_ints (by rw [ut.l2];omega)
     obtain ⟨me,eme⟩:∃ me,me=t.1.getD e 0:=⟨_,rfl⟩
     obtain ⟨ke,eke⟩:∃ ke,ke=t.2.getD e 0:=⟨_,rfl⟩
     have lme:∀ z,ldB (some (false,z)) (some (rowB t.1 0)) 0 e=some (.int .i64 me):=fun z=>by rw [eme];exact ldB_ints (by rw [ut.l1];omega)
     have lce:∀ z,ldB (some (false,z)) (some (rowB t.2 0)) 0 e=some (.int .i64 ke):=fun z=>by rw [eke];exact ldB_ints (by rw [ut.l2];omega)
     have bm:=hu.b1 x
     have bc:=hu.b2 x
     rw [← em0] at bm
     rw [← ec0] at bc
     have sx1:∀ (F:ABlk→Heap),stQ base i1 (some (rowB t.1 0)) 0 e [.int .i64 (m0+c.2.2)] F=some (F (rowB (t.1.set e (m0+c.2.2)) 0)):=fun F=>by rw [stQ_row (by rw [ut.l1];omega)]
     have sx2:∀ (F:ABlk→Heap),stQ base i2 (some (rowB t.2 0)) 0 e [.int .i64 (c0+1)] F=some (F (rowB (t.2.set e (c0+1)) 0)):=fun F=>by rw [stQ_row (by rw [ut.l2];omega)]
     obtain ⟨X1,eX1⟩:∃ X1,X1=X.set i1 (rowB (t.1.set e (m0+c.2.2)) 0):=⟨_,rfl⟩
     have gC3:X1[i2]?=some (rowB t.2 0):=by rw [eX1,List.getElem?_set_ne hne];exact gCX
     have htk:((cutL R x).take (j+1)).foldl (upC x) s1=upC x t c:=by rw [List.take_add_one,hcj,List.foldl_append,← et];rfl
     have etc:upC x t c=if thB true (m0+c.2.2,c0+1) (me,ke)=true then (t.1.set e (m0+c.2.2),t.2.set e (c0+1)) else t:=by
      unfold upC upS;rw [et1,et2,← ee,← eme,← eke]
     by_cases z1:m0+c.2.2 > me
     ·have y1:(m0+c.2.2 > me)=True:=eq_true z1
      have y2:True:=trivial
      have y3:True:=trivial
      rw [if_pos (by unfold thB;rw [decide_eq_true z1];rfl)] at etc
      obtain ⟨Y,eY⟩:∃ Y,Y=X1.set i2 (rowB (t.2.set e (c0+1)) 0):=⟨_,rfl⟩
      have hsp:=@Nat.succ_ne_zero;repeat' (first|simp (disch:=first|exact dq|fail) only [go_sem,↓reduceIte,hsp,r10,d8,d2,d4,d5,d6,d7,d8,d9,q2,q4,q5,q6,q7,g0X,hltj,hlX,aj,lj,hal,am,ac,ae,ce,gMX,gCX,lmx,lcx,lme,lce,y1,y2,y3,sx1,← eX1,gC3,sx2,← eY]|refine WP_drw ?_|refine cnd_intro (fun hsp=>?_) fun hsp=>?_)
      exact ⟨agq,by omega,upC x t c,by rw [htk],by rw [eY,eX1,eX,set4 hne,etc]⟩
     ·have y1:(m0+c.2.2 > me)=False:=eq_false z1
      by_cases z2:m0+c.2.2=me
      ·have y2:(m0+c.2.2=me)=True:=eq_true z2
       by_cases z3:c0+1<ke
       ·have y3:(c0+1<ke)=True:=eq_true z3
        rw [if_pos (by unfold thB;rw [decide_eq_false z1,decide_eq_true z2,decide_eq_true z3];rfl)] at etc
        obtain ⟨Y,eY⟩:∃ Y,Y=X1.set i2 (rowB (t.2.set e (c0+1)) 0):=⟨_,rfl⟩
        have hsp:=@Nat.succ_ne_zero;repeat' (first|simp (disch:=first|exact dq|fail) only [go_sem,↓reduceIte,hsp,r10,d8,d2,d4,d5,d6,d7,d8,d9,q2,q4,q5,q6,q7,g0X,hltj,hlX,aj,lj,hal,am,ac,ae,ce,gMX,gCX,lmx,lcx,lme,lce,y1,y2,y3,sx1,← eX1,gC3,sx2,← eY]|refine WP_drw ?_|refine cnd_intro (fun hsp=>?_) fun hsp=>?_)
        exact ⟨agq,by omega,upC x t c,by rw [htk],by rw [eY,eX1,eX,set4 hne,etc]⟩
       ·have y3:(c0+1<ke)=False:=eq_false z3
        rw [if_neg (by unfold thB;rw [decide_eq_false z1,decide_eq_true z2,decide_eq_false z3];simp)] at etc
        have hsp:=@Nat.succ_ne_zero;repeat' (first|simp (disch:=first|exact dq|fail) only [go_sem,↓reduceIte,hsp,r10,d8,d2,d4,d5,d6,d7,d8,d9,q2,q4,q5,q6,q7,g0X,hltj,hlX,aj,lj,hal,am,ac,ae,ce,gMX,gCX,lmx,lcx,lme,lce,y1,y2,y3]|refine WP_drw ?_|refine cnd_intro (fun hsp=>?_) fun hsp=>?_)
        exact ⟨agq,by omega,upC x t c,by rw [htk],by rw [eX,etc]⟩
      ·have y2:(m0+c.2.2=me)=False:=eq_false z2
       have y3:True:=trivial
       rw [if_neg (by unfold thB;rw [decide_eq_false z1,decide_eq_false z2];simp)] at etc
       have hsp:=@Nat.succ_ne_zero;repeat' (first|simp (disch:=first|exact dq|fail) only [go_sem,↓reduceIte,hsp,r10,d8,d2,d4,d5,d6,d7,d8,d9,q2,q4,q5,q6,q7,g0X,hltj,hlX,aj,lj,hal,am,ac,ae,ce,gMX,gCX,lmx,lcx,lme,lce,y1,y2,y3]|refine WP_drw ?_|refine cnd_intro (fun hsp=>?_) fun hsp=>?_)
       exact ⟨agq,by omega,upC x t c,by rw [htk],by rw [eX,etc]⟩
    ·rintro fr2 X hA2 ⟨r10,t,et,eX⟩
     have d2:=hA2 2 rfl
     have d4:=hA2 4 rfl
     have d5:=hA2 5 rfl
     have d6:=hA2 6 rfl
     have d7:=hA2 7 rfl
     have d8:=hA2 8 rfl
     have d9:=hA2 9 rfl
     try simp (disch:=first|exact dq|fail) only [go_sem,↓reduceIte,q2,q4,q5,q6,q7] at d2 d4 d5 d6 d7 d8 d9
     have d8:=hA2 8 rfl
     simp (disch:=first|exact dq|fail) only [go_sem,↓reduceIte,r8] at d8
     have hltj:(((cutL R x).length:Int)<((cutL R x).length:Int))=False:=eq_false (by omega)
     rw [List.take_length] at et
     have gMX:X[i1]?=some (rowB t.1 0):=by rw [eX,List.getElem?_set_ne (fun q=>hne q.symm)];exact List.getElem?_set_self (by omega)
     have gCX:X[i2]?=some (rowB t.2 0):=by rw [eX];exact List.getElem?_set_self (by rw [List.length_set];omega)
     have xX:Ext G0 X:=by rw [eX];exact ((xK1.trans xK2).set (by omega)).set (by omega)
     have g0X:=xX.get g0
     have oX:Own encC 129 K1.length X lw ((cutL R x).map (·.1)):=by rw [eX];exact (oA.set (by omega)).set (by omega)
     have iP:=oX.rows (by rw [List.length_map];omega)
     have hlX:=rct_len iP
     rw [List.length_map] at hlX
     have lX:i2<X.length:=by rw [eX,List.length_set,List.length_set];omega
     have hsp:=@Nat.succ_ne_zero;repeat' (first|simp (disch:=first|exact dq|fail) only [go_sem,↓reduceIte,hsp,r10,d8,d2,d4,d5,d6,d7,d8,d9,q2,q4,q5,q6,q7,hltj,hlX]|refine WP_drw ?_|refine cnd_intro (fun hsp=>?_) fun hsp=>?_)
     refine ⟨agq,by omega,t,?_,xX,lX,gMX,gCX⟩
     rw [et,es0,show x+1-f=(x-f)+1 by omega,upN,← es,show f+(x-f)=x by omega];rfl
 ·rintro fr K hAg ⟨r8,s,es,xK,lK,gM,gC⟩
  have q2:=hAg 2 rfl
  have q4:=hAg 4 rfl
  have q5:=hAg 5 rfl
  have q6:=hAg 6 rfl
  have q7:=hAg 7 rfl
  try simp (disch:=first|exact dq|fail) only [go_sem,↓reduceIte] at q2 q4 q5 q6 q7
  have hltx:((n:Int)<R.L)=False:=eq_false (by omega)
  have hu:=(upN_ok hR (f:=f) (n:=n-f) (by omega)).1
  rw [← es,en'] at hu
  have g0K:=xK.get g0
  have hsp:=@Nat.succ_ne_zero;repeat' (first|simp (disch:=first|exact dq|fail) only [go_sem,↓reduceIte,hsp,r8,q2,q4,q5,q6,q7,g0K,hltx]|refine WP_drw ?_|refine cnd_intro (fun hsp=>?_) fun hsp=>?_)
  rw [← es]
  exact ⟨x0.trans xK,_,_,rfl,own_rowB gM (by omega) hu.l1.symm (by omega),own_rowB gC (by omega) hu.l2.symm (by omega)⟩
end Go.AM
namespace Go.AM
open Go.Proofs.Tryz
attribute [-go_sem] put_ne put_same
attribute [local go_sem ↓] put_if
theorem run_wide {base:Nat} {h:Heap} {v:AVal} {R:Rib} {m:Int} (hA:RibAt h v R):callL prog raw base (.fn 68 [] []) [v,.int .i64 m] h=some (.bool (decide (20<R.F.length ∨ 12<R.W.length) || (decide (m<R.L) && decide (R.L≤60))),h):=by
 have hAe:=fun H (e:Ext h H)=>hA.ext e
 obtain ⟨cv,rv,rfl,hC,hR⟩:=hA
 have o1:=hC.one
 have o2:=hR.one
 obtain ⟨G,eG⟩:∃ G,G=h++[ribB R.L cv rv]:=⟨_,rfl⟩
 have xG:Ext h G:=by rw [eG];exact .app .refl
 have g0:G[h.length]?=some (ribB R.L cv rv):=by rw [eG];exact get_eq rfl
 have hg:=fun base=>run_great (base:=base) (hAe G xG)
 unfold ribB at eG g0
 refine callL_run func68 rfl rfl ?_
 rcases Bool.eq_false_or_eq_true (decide (20<R.F.length ∨ 12<R.W.length)) with c|c
 ·rw [c] at hg ⊢
  have hsp:=@Nat.succ_ne_zero;repeat' (first|simp (disch:=first|exact dq|fail) only [go_sem,↓reduceIte,hsp,← eG,g0,hg]|refine WP_drw ?_|refine cnd_intro (fun hsp=>?_) fun hsp=>?_)
  exact fB rfl xG
 ·rw [c] at hg ⊢
  by_cases c1:m<R.L
  ·have t1:(R.L > m)=True:=eq_true c1
   by_cases c2:R.L≤60
   ·have t2:(R.L≤60)=True:=eq_true c2
    have hsp:=@Nat.succ_ne_zero;repeat' (first|simp (disch:=first|exact dq|fail) only [go_sem,↓reduceIte,hsp,← eG,g0,hg,t1,t2]|refine WP_drw ?_|refine cnd_intro (fun hsp=>?_) fun hsp=>?_)
    exact fB rfl xG
   ·have t2:(R.L≤60)=False:=eq_false c2
    have hsp:=@Nat.succ_ne_zero;repeat' (first|simp (disch:=first|exact dq|fail) only [go_sem,↓reduceIte,hsp,← eG,g0,hg,t1,t2]|refine WP_drw ?_|refine cnd_intro (fun hsp=>?_) fun hsp=>?_)
    exact fB rfl xG
  ·have t1:(R.L > m)=False:=eq_false c1
   have hsp:=@Nat.succ_ne_zero;repeat' (first|simp (disch:=first|exact dq|fail) only [go_sem,↓reduceIte,hsp,← eG,g0,hg,t1]|refine WP_drw ?_|refine cnd_intro (fun hsp=>?_) fun hsp=>?_)
   exact fB rfl xG
set_option maxRecDepth 100000 in
set_option maxHeartbeats 4000000 in
theorem run_earned {base:Nat} {h:Heap} {v:AVal} {R:Rib} {f:Nat} (hA:RibAt h v R) (hR:RibOk R) (hf:f≤R.L.toNat) :
  callL prog raw base (.fn 69 [] []) [v,.int .i64 (f:Int)] h=some (.tuple [.int .i64 (valD R f),.int .i64 (folD true R f).c],h):=by
 have hAe:=fun H (e:Ext h H)=>hA.ext e
 obtain ⟨fv,wv,rfl,hF,hW⟩:=hA
 have o1:=hF.one
 have o2:=hW.one
 have hL:=hR.L
 obtain ⟨G0,eG0⟩:∃ G0,G0=h++[rrbB R.L fv wv]:=⟨_,rfl⟩
 have x0:Ext h G0:=by rw [eG0];exact .app .refl
 have g0:G0[h.length]?=some (rrbB R.L fv wv):=by rw [eG0];exact get_eq rfl
 have l0:G0.length=h.length+1:=by rw [eG0];simp
 obtain ⟨_,G1,e1,x1,u1,u2,rfl,oU1,oU2⟩:=run_up (base:=h.length) (h:=G0) (by omega) (hAe G0 x0) hR hf
 have ou1:=oU1.one
 have ou2:=oU2.one
 have g1:=x1.get g0
 obtain ⟨hu,-⟩:=upN_ok hR (f:=f) (n:=R.L.toNat-f) (by omega)
 obtain ⟨he1,he2⟩:=up_end hR hf
 have i1:=own_ints oU1 (hu.s1 (by omega))
 have i2:=own_ints oU2 (hu.s2 (by omega))
 have a1:=adrI (i:=R.L) (by omega) i1 (by rw [hu.l1];omega)
 have a2:=adrI (i:=R.L) (by omega) i2 (by rw [hu.l2];omega)
 have d1:=loadI i1 (i:=R.L.toNat) (by rw [hu.l1];omega)
 have d2:=loadI i2 (i:=R.L.toNat) (by rw [hu.l2];omega)
 rw [he1] at d1
 rw [he2] at d2
 unfold rrbB at eG0 g0 g1
 refine callL_run func69 rfl rfl ?_
 have hsp:=@Nat.succ_ne_zero;repeat' (first|simp (disch:=first|exact dq|fail) only [go_sem,↓reduceIte,hsp,← eG0,g0,e1,g1,a1,a2,d1,d2]|refine WP_drw ?_|refine cnd_intro (fun hsp=>?_) fun hsp=>?_)
 exact fin_pl rfl rfl (x0.trans x1)
end Go.AM
