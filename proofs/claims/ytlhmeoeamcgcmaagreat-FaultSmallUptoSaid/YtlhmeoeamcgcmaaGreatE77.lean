/-
  FaultFewest, walked.
-/
import Derived.Test.YtlhmeoeamcgcmaaGreatE76
import Derived.Test.YtlhmeoeamcgcmaaGreatE67
set_option linter.unusedSimpArgs false
set_option linter.unusedVariables false
namespace Go.AM
open Go.Proofs.Tryz
attribute [-go_sem] put_ne put_same
attribute [local go_sem ↓] put_if
theorem few_len {L:Lom}:(fewM L).1.length≤6:=by
 by_cases hc:chkM L=0
 ·obtain ⟨k1,k2,k3,_⟩:=chkM_ok hc
  by_cases h:trsR L=[]
  ·rw [(few_none hc h).1];simp
  ·obtain ⟨t,ht⟩:=some_of hc h
   have:=(fewM_truth hc ht).2.1.1
   have:=rise_len (f:=fun b:Brk=>b.1) (fewM L).1 (a:=0) (c:=(L.ps.length:Int)) this.1 (fun b hb=>⟨(this.2 b hb).1,(this.2 b hb).2.1⟩) (by omega)
   omega
 ·rw [(few_bad hc 0 0).1];simp
theorem pck_small {L:Lom}:Small (pckM L).1:=by
 have h0:Small []:=⟨by simp,by simp⟩
 by_cases hc:chkM L=0
 ·obtain ⟨k1,k2,k3,k4,_⟩:=chkM_ok hc
  by_cases h:trsR L=[]
  ·rw [(few_none hc h).2];exact h0
  ·obtain ⟨t,ht⟩:=some_of hc h
   exact small_of ((pckM_best hc ht).2.1.trans (by rw [deskA_bad];exact List.filter_sublist)) (by omega)
 ·rw [(few_bad hc 0 0).2.1];exact h0
theorem stE77a {base:Nat} {l:List Oper} {s:St} {Q:AExit→St→Prop}:WP prog raw base (.region 9 l.toArray false) s Q=WPS prog raw base (.region 9 l.toArray false) s Q:=WP_stop
attribute [local go_sem ↓ 3000] stE77a
theorem stE77b {base:Nat} {l:List Oper} {s:St} {Q:AExit→St→Prop}:WP prog raw base (.region 12 l.toArray false) s Q=WPS prog raw base (.region 12 l.toArray false) s Q:=WP_stop
attribute [local go_sem ↓ 3000] stE77b
set_option maxRecDepth 100000 in
set_option maxHeartbeats 8000000 in
theorem run_FaultFewest {base:Nat} {h:Heap} {v0 v1 v2:AVal} (hL0:LomN 1048576 h v0) (hw1:IntV h v1) (hp1:IntV h v2):callL prog raw base (.fn 4 [] []) [v0,v1,v2] h=some (.bool true,h):=by
 obtain ⟨L,hL,_⟩:=hL0
 obtain ⟨ia,rfl⟩:=hw1
 obtain ⟨ib,rfl⟩:=hp1
 obtain ⟨pv,sv,eL,hP,hS⟩:=id hL
 have rg:=rib_rng hP
 have o1:=hP.one
 have o2:=hS.one
 obtain ⟨h2,eh2⟩:∃ h2,h2=h++[lmB L.R L.T pv sv]:=⟨_,rfl⟩
 have x2:Ext h h2:=by rw [eh2];exact .app .refl
 have hl2:h2.length=h.length+1:=by rw [eh2];simp
 have gr:=fun base=>run_wide (base:=base) (hL.ext x2)
 have gL2:h2[h.length]?=some (lmB L.R L.T pv sv):=by rw [eh2];exact get_eq rfl
 subst eL
 unfold lmB at eh2 gL2
 refine callL_run func4 rfl rfl ?_
 rcases Bool.eq_false_or_eq_true (wideM L) with hg|hg
 ·rw [hg] at gr
  have hsp:=@Nat.succ_ne_zero;repeat' (first|simp (disch:=first|exact dq|fail) only [go_sem,↓reduceIte,hsp,← eh2,gL2,gr,run_awake]|refine WP_drw ?_|refine cnd_intro (fun hsp=>?_) fun hsp=>?_)
  exact fB rfl x2
 ·rw [hg] at gr
  obtain ⟨hg2,hw3⟩:=wideM_no hg
  obtain ⟨n1,n2,n3⟩:=grtM_no hg2
  have sm:∀ p ∈ L.ps,Small p.rib:=fun p hp=>⟨by have:=n3 p hp;omega,rg p hp⟩
  have ok:=lomOk_small hg2 sm
  have n3':∀ p ∈ L.ps,p.rib.length≤1000:=fun p hp=>by have:=n3 p hp;omega
  obtain ⟨w1,H1,e1,y1,pw,sw,rfl,oP,oS⟩:=run_own (base:=h.length) (by omega) (hL.ext x2) (by omega) (by omega) n3'
  obtain ⟨w2,H2,e2,y2,px,sx,rfl,oPR,oSR⟩:=run_theirs (base:=h.length) (by have:=y1.len;omega) (hL.ext (x2.trans y1)) (by omega) (by omega) n3'
  have hP1:=((oP.parts (by omega) sm).ext y2)
  have hS1:=(((oS.rows (by omega):Rows encS H1 sw L.ss)).ext y2)
  have hP2:=oPR.parts (by omega) sm
  have hS2:=oSR.rows (by omega:L.ss.length<2 ^ 60)
  have q1:=hP1.one
  have q2:=hS1.one
  have q3:=hP2.one
  have q4:=hS2.one
  have gL1:=y1.get gL2
  have hh2:=((x2.trans y1).trans y2).len
  obtain ⟨H3,eH3⟩:∃ H3,H3=H2++[lmB L.R L.T pw sw]++[rlB L.R L.T px sx]:=⟨_,rfl⟩
  have y3:Ext H2 H3:=by rw [eH3];exact .app (.app .refl)
  have x3:=((x2.trans y1).trans y2).trans y3
  have hh3:=x3.len
  have hl3:H3.length=H2.length+2:=by rw [eH3];simp
  have y13:=(y1.trans y2).trans y3
  have gL3:=y13.get gL2
  have gO3:H3[H2.length]?=some (lmB L.R L.T pw sw):=by rw [eH3];exact get_app (get_eq rfl)
  have gT3:H3[H2.length+1]?=some (rlB L.R L.T px sx):=by rw [eH3];exact get_eq (by simp)
  have LO:∀ {H:Heap},Ext H3 H→LomAt H (lomV L.R L.T pw sw) L:=fun x=>⟨pw,sw,rfl,hP1.ext (y3.trans x),hS1.ext (y3.trans x)⟩
  have LR:∀ {H:Heap},Ext H3 H→LomAt H (lomV L.R L.T px sx) L:=fun x=>⟨px,sx,rfl,hP2.ext (y3.trans x),hS2.ext (y3.trans x)⟩
  have c1:=fun base=>run_chkR (base:=base) (LR .refl) (by omega) (by omega) n3'
  unfold lmB rlB at eH3
  unfold lmB at gO3
  unfold rlB at gT3
  have hsp:=@Nat.succ_ne_zero;repeat' (first|simp (disch:=first|exact dq|fail) only [go_sem,↓reduceIte,hsp,← eh2,gL2,gr,e1,gL1,e2,← eH3,c1,gO3,gT3]|refine WP_drw ?_|refine cnd_intro (fun hsp=>?_) fun hsp=>?_)
  refine WPS_restF fun Z eZ=>?_
  rw [← WP_seq]
  have kZ1:=congrFun eZ 1
  have kZ2:=congrFun eZ 2
  have kZ3:=congrFun eZ 3
  have kZ6:=congrFun eZ 6
  have kZ7:=congrFun eZ 7
  have kZ8:=congrFun eZ 8
  have kZ9:=congrFun eZ 9
  have kZ10:=congrFun eZ 10
  have kZ11:=congrFun eZ 11
  have kZ12:=congrFun eZ 12
  have kZ13:=congrFun eZ 13
  have kZ14:=congrFun eZ 14
  have kZ15:=congrFun eZ 15
  try simp (disch:=first|exact dq|fail) only [go_sem,↓reduceIte] at kZ1 kZ2 kZ3 kZ6 kZ7 kZ8 kZ9 kZ10 kZ11 kZ12 kZ13 kZ14 kZ15
  clear eZ
  have lS:∀ {H:Heap},Ext H3 H→lenOpA prog H 23 sv=some (.int .i64 (L.ss.length:Int)):=fun x=>(hS.ext (x3.trans x)).len Fc.el23
  have sig:∀ {H:Heap} (x:Ext H3 H) (i:Nat),i<L.ss.length→indexAddrA prog 23 sv (.int .i64 (i:Int))=some (elAdr sv encS.z i 0)∧fieldAddrA prog 56 (elAdr sv encS.z i 0) 2=some (elAdr sv encS.z i 3)∧loadP prog H 4 (elAdr sv encS.z i 3)=some (.bool (L.ss.getD i sgt0).bad):=fun x i hi=>by
   have sR:=hS.ext (x3.trans x)
   have ad:=sR.addr (P:=prog) (i:=(i:Int)) Fc.el23 Fc.ar23 (by omega) (by omega)
   rw [Int.toNat_natCast] at ad
   exact ⟨ad,elAdr_field (P:=prog) (i:=i) (o:=0) (off:=3) (q:=false) (n:=1) sR (by omega) (by kernel_rfl) (by decide),sR.cell (P:=prog) Fc.ty4 (getD_some hi) (o:=3) (a:=.bool (L.ss.getD i sgt0).bad) rfl⟩
  refine WP_meet (fun fr h'=>Agree [(10,16),(36,96)] fr Z∧Ext H3 h'∧fr 10=.int .i64 (fewM L).2∧fr 11=.int .i64 (aptM L ia ib).2∧fr 12=.int .i64 ((fewM L).1.length:Int)∧fr 13=.int .i64 (cntM L).1∧fr 15=.bool (aptM L ia ib).1∧∃ x14,fr 14=x14∧Own encI 3 0 h' x14 (pckM L).1) ?_ ?_
  ·rw [WP_seq,WP_region]
   by_cases d1:chkM L=0
   ·have t1:(chkM L=0)=True:=eq_true d1
    obtain ⟨k1,k2,k3,k4,k5,k6⟩:=chkM_ok d1
    obtain ⟨a1,H4,e4,y4,oA⟩:=run_AllR (base:=h.length) (h:=H3) (L:=L) k2 (by omega) q4 L.ps.length (k:=0) (by omega) (hw3 d1) hh3 (hP2.ext y3)
    obtain ⟨a2,H5,e5,y5,oT⟩:=run_truthsR (base:=h.length) (Nat.le_trans hh3 y4.len) ((hP2.ext y3).ext y4) ((hS2.ext y3).ext y4) d1 n3' (oA.low (Nat.zero_le _)) (hw3 d1) (fun t ht=>⟨truM_iff.2 ((allR_ok d1).1 ht),by have:=allR_len ht;omega⟩)
    have f1:=oA.one
    have f2:=oT.one
    have hfl:=List.length_filter_le (xplM L) (allR L.T.toNat 0 L.ps.length)
    have hw:=hw3 d1
    have l5:=oT.len (by omega)
    have gT4:=y4.get gT3
    have gT5:=y5.get gT4
    have y45:=y4.trans y5
    have gL5:=y45.get gL3
    have hts:∀ t ∈ (allR L.T.toNat 0 L.ps.length).filter (xplM L),t.length≤6:=fun t ht=>by have:=allR_len (List.mem_filter.1 ht).1;omega
    rw [Int.natCast_zero] at e4
    have ce:(cntM L).1=(((allR L.T.toNat 0 L.ps.length).filter (xplM L)).length:Int):=by rw [cntM_eq d1];rfl
    have hsp:=@Nat.succ_ne_zero;repeat' (first|simp (disch:=first|exact dq|fail) only [go_sem,↓reduceIte,hsp,kZ1,kZ2,kZ3,kZ6,kZ7,kZ8,kZ9,kZ10,kZ11,kZ12,kZ13,kZ14,kZ15,t1,gT3,gT4,e4,e5,l5]|refine WP_drw ?_|refine cnd_intro (fun hsp=>?_) fun hsp=>?_)
    refine WPS_restF fun W eW=>?_
    rw [← WP_seq]
    have kW1:=congrFun eW 1
    have kW2:=congrFun eW 2
    have kW3:=congrFun eW 3
    have kW8:=congrFun eW 8
    have kW9:=congrFun eW 9
    have kW10:=congrFun eW 10
    have kW11:=congrFun eW 11
    have kW12:=congrFun eW 12
    have kW13:=congrFun eW 13
    have kW14:=congrFun eW 14
    have kW15:=congrFun eW 15
    have kW16:=congrFun eW 16
    try simp (disch:=first|exact dq|fail) only [go_sem,↓reduceIte,kZ1,kZ2,kZ3,kZ8,kZ9,kZ10,kZ11,kZ12,kZ13,kZ14,kZ15] at kW1 kW2 kW3 kW8 kW9 kW10 kW11 kW12 kW13 kW14 kW15 kW16
    have aW:Agree [(10,16),(36,96)] W Z:=by rw [eW];exact agq
    clear eW
    have kW13:W 13=.int .i64 (((allR L.T.toNat 0 L.ps.length).filter (xplM L)).length:Int):=by
     first|exact kW13|simpa using kW13
    refine WP_meet (fun fr h'=>Agree [(10,16),(36,96)] fr Z∧Ext H5 h'∧fr 10=.int .i64 (fewM L).2∧fr 12=.int .i64 ((fewM L).1.length:Int)∧fr 13=.int .i64 (cntM L).1∧fr 11=.int .i64 0∧fr 15=.bool false∧∃ x14,fr 14=x14∧Own encI 3 0 h' x14 (pckM L).1) ?_ ?_
    ·rw [WP_seq,WP_region]
     by_cases c3:trsR L=[]
     ·have t3:((((allR L.T.toNat 0 L.ps.length).filter (xplM L)).length:Int)=0)=True:=eq_true (by rw [show (allR L.T.toNat 0 L.ps.length).filter (xplM L)=[] from c3];rfl)
      obtain ⟨w1,w2⟩:=few_none d1 c3
      rw [w1,w2,ce]
      have hsp:=@Nat.succ_ne_zero;repeat' (first|simp (disch:=first|exact dq|fail) only [go_sem,↓reduceIte,hsp,kW1,kW2,kW3,kW8,kW9,kW10,kW11,kW12,kW13,kW14,kW15,kW16,t3,d1]|refine WP_drw ?_|refine cnd_intro (fun hsp=>?_) fun hsp=>?_)
      exact ⟨agq,.refl,_,rfl,Own.nil⟩
     ·have t3:((((allR L.T.toNat 0 L.ps.length).filter (xplM L)).length:Int)=0)=False:=eq_false (by have:=List.length_pos_iff.2 c3;unfold trsR at this;omega)
      obtain ⟨t0,ht0⟩:=some_of d1 c3
      have w1:=(fewM_truth d1 ht0).1
      have e6:=fun base=>run_fewestR (base:=base) (oT.low (Nat.zero_le _)) (by omega) c3 hts
      have fq:fewR ((allR L.T.toNat 0 L.ps.length).filter (xplM L))=(fewM L).1.length:=fewR_eq d1 ht0
      rw [fq] at e6
      obtain ⟨px',H6,e7,y6,oP6⟩:=run_packedR (base:=h.length) (Nat.le_trans hh3 y45.len) ((hP2.ext y3).ext y45) ((hS2.ext y3).ext y45) d1 n3'
      rw [pckR_eq d1 ht0] at oP6
      have f6:=oP6.one
      rw [w1,ce]
      have hsp:=@Nat.succ_ne_zero;repeat' (first|simp (disch:=first|exact dq|fail) only [go_sem,↓reduceIte,hsp,kW1,kW2,kW3,kW8,kW9,kW10,kW11,kW12,kW13,kW14,kW15,kW16,t3,d1,e6,e7,gT5]|refine WP_drw ?_|refine cnd_intro (fun hsp=>?_) fun hsp=>?_)
      exact ⟨agq,y6,_,rfl,oP6⟩
    ·rintro fr6 H6 ⟨hA6,y6,w10,w12,w13,w11,w15,x14,w14,oP6⟩
     have y36:=y45.trans y6
     have hh6:=(x3.trans y36).len
     have gL6:=y36.get gL3
     have gT6:=y6.get gT5
     have lS6:=lS y36
     have f6:=oP6.one
     have w1:=hA6 1 rfl
     have w2:=hA6 2 rfl
     have w3:=hA6 3 rfl
     have w8:=hA6 8 rfl
     have w9:=hA6 9 rfl
     try simp (disch:=first|exact dq|fail) only [go_sem,↓reduceIte,kZ1,kZ2,kZ3,kZ8,kZ9] at w1 w2 w3 w8 w9
     by_cases r1:(0≤ia∧ia<(L.ss.length:Int))∧(0≤ib∧ib<(L.ss.length:Int))
     ·obtain ⟨na,rfl⟩:=Int.eq_ofNat_of_zero_le r1.1.1
      obtain ⟨nb,rfl⟩:=Int.eq_ofNat_of_zero_le r1.2.1
      have t20:((na:Int)<0)=False:=eq_false (by omega)
      have t21:((na:Int) ≥ (L.ss.length:Int))=False:=eq_false (by omega)
      have t22:((nb:Int)<0)=False:=eq_false (by omega)
      have t23:((nb:Int) ≥ (L.ss.length:Int))=False:=eq_false (by omega)
      obtain ⟨a1,a2,a3⟩:=sig y36 na (by omega)
      obtain ⟨b1,b2,b3⟩:=sig y36 nb (by omega)
      rw [← badI_nat2] at a3 b3
      by_cases r2:badI L (na:Int)=true∧badI L (nb:Int)=true∧(na:Int) ≠ (nb:Int)
      ·have ea:=fun base=>run_apartR (base:=base) (a:=na) (b:=nb) (((hP2.ext y3).ext y36)) ((hS2.ext y3).ext y36) d1 n3' (by omega) (by omega)
       have ed:=apt_is d1 (a:=na) (b:=nb) ⟨by omega,by omega⟩ ⟨r2.1,r2.2.1,by omega⟩
       have t24:((na:Int)=(nb:Int))=False:=eq_false r2.2.2
       rw [r2.1] at a3
       rw [r2.2.1] at b3
       rw [ed]
       have hsp:=@Nat.succ_ne_zero;repeat' (first|simp (disch:=first|exact dq|fail) only [go_sem,↓reduceIte,hsp,w1,w2,w3,w8,w9,w10,w11,w12,w13,w14,w15,t20,t21,t22,t23,gL6,lS6,a1,a2,a3,b1,b2,b3,t24,ea,gT6]|refine WP_drw ?_|refine cnd_intro (fun hsp=>?_) fun hsp=>?_)
       exact ⟨agq,y36,_,rfl,oP6⟩
      ·have ed:=apt_false d1 r1 r2
       rw [ed]
       rcases Bool.eq_false_or_eq_true (badI L (na:Int)) with q5|q5
       ·rw [q5] at a3
        rcases Bool.eq_false_or_eq_true (badI L (nb:Int)) with q6|q6
        ·rw [q6] at b3
         have t24:((na:Int)=(nb:Int))=True:=eq_true (Classical.byContradiction fun q=>r2 ⟨q5,q6,q⟩)
         have hsp:=@Nat.succ_ne_zero;repeat' (first|simp (disch:=first|exact dq|fail) only [go_sem,↓reduceIte,hsp,w1,w2,w3,w8,w9,w10,w11,w12,w13,w14,w15,t20,t21,t22,t23,gL6,lS6,a1,a2,a3,b1,b2,b3,t24]|refine WP_drw ?_|refine cnd_intro (fun hsp=>?_) fun hsp=>?_)
         exact ⟨agq,y36,_,rfl,oP6⟩
        ·rw [q6] at b3
         have hsp:=@Nat.succ_ne_zero;repeat' (first|simp (disch:=first|exact dq|fail) only [go_sem,↓reduceIte,hsp,w1,w2,w3,w8,w9,w10,w11,w12,w13,w14,w15,t20,t21,t22,t23,gL6,lS6,a1,a2,a3,b1,b2,b3]|refine WP_drw ?_|refine cnd_intro (fun hsp=>?_) fun hsp=>?_)
         exact ⟨agq,y36,_,rfl,oP6⟩
       ·rw [q5] at a3
        have hsp:=@Nat.succ_ne_zero;repeat' (first|simp (disch:=first|exact dq|fail) only [go_sem,↓reduceIte,hsp,w1,w2,w3,w8,w9,w10,w11,w12,w13,w14,w15,t20,t21,t22,t23,gL6,lS6,a1,a2,a3]|refine WP_drw ?_|refine cnd_intro (fun hsp=>?_) fun hsp=>?_)
        exact ⟨agq,y36,_,rfl,oP6⟩
     ·have ed:=apt_out d1 r1
      rw [ed]
      by_cases r2:ia<0
      ·have t20:(ia<0)=True:=eq_true r2
       have hsp:=@Nat.succ_ne_zero;repeat' (first|simp (disch:=first|exact dq|fail) only [go_sem,↓reduceIte,hsp,w1,w2,w3,w8,w9,w10,w11,w12,w13,w14,w15,t20]|refine WP_drw ?_|refine cnd_intro (fun hsp=>?_) fun hsp=>?_)
       exact ⟨agq,y36,_,rfl,oP6⟩
      ·have t20:(ia<0)=False:=eq_false r2
       by_cases r3:ia ≥ (L.ss.length:Int)
       ·have t21:(ia ≥ (L.ss.length:Int))=True:=eq_true r3
        have hsp:=@Nat.succ_ne_zero;repeat' (first|simp (disch:=first|exact dq|fail) only [go_sem,↓reduceIte,hsp,w1,w2,w3,w8,w9,w10,w11,w12,w13,w14,w15,t20,t21,gL6,lS6]|refine WP_drw ?_|refine cnd_intro (fun hsp=>?_) fun hsp=>?_)
        exact ⟨agq,y36,_,rfl,oP6⟩
       ·have t21:(ia ≥ (L.ss.length:Int))=False:=eq_false r3
        by_cases r4:ib<0
        ·have t22:(ib<0)=True:=eq_true r4
         have hsp:=@Nat.succ_ne_zero;repeat' (first|simp (disch:=first|exact dq|fail) only [go_sem,↓reduceIte,hsp,w1,w2,w3,w8,w9,w10,w11,w12,w13,w14,w15,t20,t21,t22,gL6,lS6]|refine WP_drw ?_|refine cnd_intro (fun hsp=>?_) fun hsp=>?_)
         exact ⟨agq,y36,_,rfl,oP6⟩
        ·have t22:(ib<0)=False:=eq_false r4
         have t23:(ib ≥ (L.ss.length:Int))=True:=eq_true (by omega)
         have hsp:=@Nat.succ_ne_zero;repeat' (first|simp (disch:=first|exact dq|fail) only [go_sem,↓reduceIte,hsp,w1,w2,w3,w8,w9,w10,w11,w12,w13,w14,w15,t20,t21,t22,t23,gL6,lS6]|refine WP_drw ?_|refine cnd_intro (fun hsp=>?_) fun hsp=>?_)
         exact ⟨agq,y36,_,rfl,oP6⟩
   ·have t1:(chkM L=0)=False:=eq_false d1
    obtain ⟨w1,w2,w3,w4⟩:=few_bad d1 ia ib
    rw [w1,w2,w3,w4]
    have hsp:=@Nat.succ_ne_zero;repeat' (first|simp (disch:=first|exact dq|fail) only [go_sem,↓reduceIte,hsp,kZ1,kZ2,kZ3,kZ6,kZ7,kZ8,kZ9,kZ10,kZ11,kZ12,kZ13,kZ14,kZ15,t1]|refine WP_drw ?_|refine cnd_intro (fun hsp=>?_) fun hsp=>?_)
    exact ⟨agq,.refl,_,rfl,Own.nil⟩
  ·rintro fr4 H4 ⟨hA4,y4,z10,z11,z12,z13,z15,x14,z14,o14⟩
   have z1:=hA4 1 rfl
   have z2:=hA4 2 rfl
   have z3:=hA4 3 rfl
   have z6:=hA4 6 rfl
   have z7:=hA4 7 rfl
   have z8:=hA4 8 rfl
   have z9:=hA4 9 rfl
   try simp (disch:=first|exact dq|fail) only [go_sem,↓reduceIte,kZ1,kZ2,kZ3,kZ6,kZ7,kZ8,kZ9] at z1 z2 z3 z6 z7 z8 z9
   have x4:=x3.trans y4
   have hh4:=x4.len
   have gL4:=y4.get gL3
   have gO4:=y4.get gO3
   have gT4:=y4.get gT3
   have fl:=few_len (L:=L)
   have cz:(cntM L).2=chkM L:=by
    by_cases hc:chkM L=0
    ·rw [cntM_eq hc,hc]
    ·rw [(few_bad hc ia ib).2.2.1]
   have e5:=fun base=>run_count (base:=base) (LO y4) ok
   rw [cz] at e5
   obtain ⟨_,H5,e6,y5,u5,rfl,o5⟩:=run_fewest (base:=h.length) hh4 (LO y4) ok
   have y45:=y4.trans y5
   obtain ⟨_,H6,e7,y6,u6,rfl,o6⟩:=run_packed (base:=h.length) (Nat.le_trans hh4 y5.len) (LO y45) ok
   rw [few_pck] at e7
   have y46:=y45.trans y6
   have e8:=fun base=>run_Apart (base:=base) (a:=ia) (b:=ib) (LO y46) ok
   have j5:=o5.one
   have j6:=o6.one
   have j14:=o14.one
   have hh6:=(x3.trans y46).len
   have gO5:=y5.get gO4
   have gO6:=y6.get gO5
   have gL6:=(y5.trans y6).get gL4
   have gT6:=(y5.trans y6).get gT4
   have i6:=own_ints o6 pck_small
   have i14:=own_ints (o14.ext (y5.trans y6)) pck_small
   have eqI:=fun base=>run_eqI (base:=base) i6 i14
   have l5:=own_len (o5.ext y6) Fc.el60 (by omega)
   have sam:=fun base (H:Heap) (x:Ext H6 H)=>run_same (base:=base) (LO (y46.trans x)) (hL.ext ((x3.trans y46).trans x)) (by omega) (by omega)
   by_cases f0:(fewM L).2=0
   ·have t0:((fewM L).2=0)=True:=eq_true f0
    have d1:chkM L=0:=Classical.byContradiction fun q=>by rw [(few_bad q 0 0).1] at f0;exact q f0
    obtain ⟨k1,k2,k3,k4,k5,k6⟩:=chkM_ok d1
    have c3:trsR L ≠ []:=fun q=>by rw [(few_none d1 q).1] at f0;cases f0
    obtain ⟨t0',ht0⟩:=some_of d1 c3
    have m4:=(fewM_truth d1 ht0).2.1
    obtain ⟨u7,H7,e9,y7,o7⟩:=run_brokenL (base:=h.length) hh6 ((o5.ext y6).rows (by omega)) (by omega)
    have j7:=o7.one
    have R7:=o7.rows (show (fewM L).1.length<2 ^ 60 by omega)
    have e10:=fun base=>run_truthR (base:=base) (((hP2.ext y3).ext y46).ext y7) q4 (by omega) (by omega) R7 (by omega)
    rw [truM_iff.2 m4.1] at e10
    obtain ⟨u8,H8,e11,y8,o8⟩:=run_brokenL (base:=h.length) (Nat.le_trans hh6 y7.len) (((o5.ext y6).ext y7).rows (by omega)) (by omega)
    have j8:=o8.one
    have R8:=o8.rows (show (fewM L).1.length<2 ^ 60 by omega)
    have y68:=y7.trans y8
    obtain ⟨u9,H9,e12,y9,o9⟩:=run_leftR (base:=h.length) (Nat.le_trans hh6 y68.len) (((hP2.ext y3).ext y46).ext y68) (((hS2.ext y3).ext y46).ext y68) d1 n3' R8 (by omega) (truM_iff.2 m4.1)
    have j9:=o9.one
    have lz:(lftM L (fewM L).1).1.length=0:=by have:=(xplM_iff d1).2 m4;rw [xplM_len d1 (truM_iff.2 m4.1)] at this;exact of_decide_eq_true this
    have l9:=own_len o9 Fc.el36 (by omega)
    rw [lz] at l9
    have y69:=y68.trans y9
    have e13:=fun base=>sam base H9 y69
    have gT7:=y7.get gT6
    have gT8:=y8.get gT7
    have gO9:=y69.get gO6
    have gL9:=y69.get gL6
    have t00:((0:Int) > 0)=False:=eq_false (by omega)
    have hsp:=@Nat.succ_ne_zero;repeat' (first|simp (disch:=first|exact dq|fail) only [go_sem,↓reduceIte,hsp,t00,z1,z2,z3,z6,z7,z8,z9,z10,z11,z12,z13,z14,z15,gO4,gO5,gO6,gL6,gT6,e5,e6,e7,e8,eqI,l5,t0,e9,e10,e11,e12,l9,e13,gT7,gT8,gO9,gL9,run_awake,eq_self,not_true,decide_false,decide_true,Bool.false_eq_true,Bool.not_true,Bool.not_false,Int.natCast_zero,neB]|refine WP_drw ?_|refine cnd_intro (fun hsp=>?_) fun hsp=>?_)
    exact fB rfl ((x3.trans y46).trans y69)
   ·have t0:((fewM L).2=0)=False:=eq_false f0
    have e13:=fun base=>sam base H6 .refl
    have hsp:=@Nat.succ_ne_zero;repeat' (first|simp (disch:=first|exact dq|fail) only [go_sem,↓reduceIte,hsp,z1,z2,z3,z6,z7,z8,z9,z10,z11,z12,z13,z14,z15,gO4,gO5,gO6,gL6,gT6,e5,e6,e7,e8,eqI,l5,t0,e13,run_awake,eq_self,not_true,decide_false,decide_true,Bool.false_eq_true,Bool.not_true,Bool.not_false,neB]|refine WP_drw ?_|refine cnd_intro (fun hsp=>?_) fun hsp=>?_)
    exact fB rfl (x3.trans y46)
end Go.AM
