/-
  FaultWeavers, walked.
-/
import Derived.Test.YtlhmeoeamcgcmaaGreatE67
set_option linter.unusedSimpArgs false
set_option linter.unusedVariables false
namespace Go.AM
open Go.Proofs.Tryz
attribute [-go_sem] put_ne put_same
attribute [local go_sem ↓] put_if
theorem truth_len' {L:Lom} (hc:chkM L=0) {t:List Brk} (ht:truOk L t):t.length≤6:=by
 have h:=allR_len ((allR_ok hc).2 ht)
 have:=(chkM_ok hc).2.2.1
 omega
theorem stE68 {base:Nat} {l:List Oper} {s:St} {Q:AExit→St→Prop}:WP prog raw base (.region 7 l.toArray false) s Q=WPS prog raw base (.region 7 l.toArray false) s Q:=WP_stop
attribute [local go_sem ↓ 3000] stE68
set_option maxRecDepth 100000 in
set_option maxHeartbeats 8000000 in
theorem run_FaultWeavers {base:Nat} {h:Heap} {v0 v1 v2:AVal} (hL0:LomN 1048576 h v0) (hw1:IntV h v1) (hp1:IntV h v2):callL prog raw base (.fn 5 [] []) [v0,v1,v2] h=some (.bool true,h):=by
 obtain ⟨L,hL,_⟩:=hL0
 obtain ⟨wh,rfl⟩:=hw1
 obtain ⟨pr,rfl⟩:=hp1
 obtain ⟨pv,sv,eL,hP,hS⟩:=id hL
 have rg:=rib_rng hP
 have o1:=hP.one
 have o2:=hS.one
 obtain ⟨h2,eh2⟩:∃ h2,h2=h++[lmB L.R L.T pv sv]:=⟨_,rfl⟩
 have x2:Ext h h2:=by rw [eh2];exact .app .refl
 have hl2:h2.length=h.length+1:=by rw [eh2];simp
 have gr:=fun base=>run_wide (base:=base) (hL.ext x2)
 have gL2:h2[h.length]?=some (lmB L.R L.T pv sv):=by rw [eh2];exact get_eq rfl
 subst eL
 unfold lmB at eh2 gL2
 refine callL_run func5 rfl rfl ?_
 rcases Bool.eq_false_or_eq_true (wideM L) with hg|hg
 ·rw [hg] at gr
  have hsp:=@Nat.succ_ne_zero;repeat' (first|simp (disch:=first|exact dq|fail) only [go_sem,↓reduceIte,hsp,← eh2,gL2,gr,run_awake]|refine WP_drw ?_|refine cnd_intro (fun hsp=>?_) fun hsp=>?_)
  exact fB rfl x2
 ·rw [hg] at gr
  obtain ⟨hg2,hw3⟩:=wideM_no hg
  obtain ⟨n1,n2,n3⟩:=grtM_no hg2
  have sm:∀ p ∈ L.ps,Small p.rib:=fun p hp=>⟨by have:=n3 p hp;omega,rg p hp⟩
  have ok:=lomOk_small hg2 sm
  have n3':∀ p ∈ L.ps,p.rib.length≤1000:=fun p hp=>by have:=n3 p hp;omega
  obtain ⟨w1,H1,e1,y1,pw,sw,rfl,oP,oS⟩:=run_own (base:=h.length) (by omega) (hL.ext x2) (by omega) (by omega) n3'
  obtain ⟨w2,H2,e2,y2,px,sx,rfl,oPR,oSR⟩:=run_theirs (base:=h.length) (by have:=y1.len;omega) (hL.ext (x2.trans y1)) (by omega) (by omega) n3'
  have hP1:=((oP.parts (by omega) sm).ext y2)
  have hS1:=(((oS.rows (by omega):Rows encS H1 sw L.ss)).ext y2)
  have hP2:=oPR.parts (by omega) sm
  have hS2:=oSR.rows (by omega:L.ss.length<2 ^ 60)
  have q1:=hP1.one
  have q2:=hS1.one
  have q3:=hP2.one
  have q4:=hS2.one
  have gL1:=y1.get gL2
  have hh2:=((x2.trans y1).trans y2).len
  obtain ⟨H3,eH3⟩:∃ H3,H3=H2++[lmB L.R L.T pw sw]++[rlB L.R L.T px sx]:=⟨_,rfl⟩
  have y3:Ext H2 H3:=by rw [eH3];exact .app (.app .refl)
  have x3:=((x2.trans y1).trans y2).trans y3
  have hh3:=x3.len
  have hl3:H3.length=H2.length+2:=by rw [eH3];simp
  have y13:=(y1.trans y2).trans y3
  have gL3:=y13.get gL2
  have gO3:H3[H2.length]?=some (lmB L.R L.T pw sw):=by rw [eH3];exact get_app (get_eq rfl)
  have gT3:H3[H2.length+1]?=some (rlB L.R L.T px sx):=by rw [eH3];exact get_eq (by simp)
  have LO:∀ {H:Heap},Ext H3 H→LomAt H (lomV L.R L.T pw sw) L:=fun x=>⟨pw,sw,rfl,hP1.ext (y3.trans x),hS1.ext (y3.trans x)⟩
  have LR:∀ {H:Heap},Ext H3 H→LomAt H (lomV L.R L.T px sx) L:=fun x=>⟨px,sx,rfl,hP2.ext (y3.trans x),hS2.ext (y3.trans x)⟩
  have c1:=fun base=>run_chkR (base:=base) (LR .refl) (by omega) (by omega) n3'
  unfold lmB rlB at eH3
  unfold lmB at gO3
  unfold rlB at gT3
  have hsp:=@Nat.succ_ne_zero;repeat' (first|simp (disch:=first|exact dq|fail) only [go_sem,↓reduceIte,hsp,← eh2,gL2,gr,e1,gL1,e2,← eH3,c1,gO3,gT3]|refine WP_drw ?_|refine cnd_intro (fun hsp=>?_) fun hsp=>?_)
  refine WPS_restF fun Z eZ=>?_
  rw [← WP_seq]
  have kZ1:=congrFun eZ 1
  have kZ2:=congrFun eZ 2
  have kZ3:=congrFun eZ 3
  have kZ7:=congrFun eZ 7
  have kZ8:=congrFun eZ 8
  have kZ9:=congrFun eZ 9
  have kZ10:=congrFun eZ 10
  have kZ11:=congrFun eZ 11
  have kZ12:=congrFun eZ 12
  try simp (disch:=first|exact dq|fail) only [go_sem,↓reduceIte] at kZ1 kZ2 kZ3 kZ7 kZ8 kZ9 kZ10 kZ11 kZ12
  clear eZ
  refine WP_meet (fun fr h'=>Agree [(9,13),(15,15),(35,85)] fr Z∧Ext H3 h'∧fr 9=.int .i64 (wvrM L).2∧fr 10=.int .i64 (othM L wh).2∧fr 11=.int .i64 (finM L pr).2∧∃ x12,fr 12=x12∧Own encI 3 0 h' x12 (wvrM L).1) ?_ ?_
  ·rw [WP_seq,WP_region]
   by_cases d1:chkM L=0
   ·have t1:(chkM L=0)=True:=eq_true d1
    obtain ⟨k1,k2,k3,k4,k5,k6⟩:=chkM_ok d1
    obtain ⟨a1,H4,e4,y4,oA⟩:=run_AllR (base:=h.length) (h:=H3) (L:=L) k2 (by omega) q4 L.ps.length (k:=0) (by omega) (hw3 d1) hh3 (hP2.ext y3)
    obtain ⟨a2,H5,e5,y5,oT⟩:=run_truthsR (base:=h.length) (Nat.le_trans hh3 y4.len) ((hP2.ext y3).ext y4) ((hS2.ext y3).ext y4) d1 n3' (oA.low (Nat.zero_le _)) (hw3 d1) (fun t ht=>⟨truM_iff.2 ((allR_ok d1).1 ht),by have:=allR_len ht;omega⟩)
    have f1:=oA.one
    have f2:=oT.one
    have hfl:=List.length_filter_le (xplM L) (allR L.T.toNat 0 L.ps.length)
    have hw:=hw3 d1
    have l5:=oT.len (by omega)
    have gT4:=y4.get gT3
    have gT5:=y5.get gT4
    rw [Int.natCast_zero] at e4
    have fe:(finM L pr).2=if ¬ (0≤pr∧pr≤1000) then 3 else (wvrM L).2:=by
     unfold finM
     rw [if_neg (by simp [d1])]
     split
     ·rfl
     ·split
      ·rfl
      ·rename_i q;exact (Classical.not_not.1 q).symm
    by_cases c3:trsR L=[]
    ·have t3:((((allR L.T.toNat 0 L.ps.length).filter (xplM L)).length:Int) > 0)=False:=eq_false (by rw [show (allR L.T.toNat 0 L.ps.length).filter (xplM L)=[] from c3];decide)
     have wv:=wvrM_no d1 c3
     have gL5:=(y4.trans y5).get gL3
     have lS:=(hS.ext (x3.trans (y4.trans y5))).len (P:=prog) Fc.el23
     by_cases r1:0≤wh∧wh<(L.ss.length:Int)
     ·obtain ⟨nn,rfl⟩:=Int.eq_ofNat_of_zero_le r1.1
      have t20:((nn:Int)<0)=False:=eq_false (by omega)
      have t21:((nn:Int) ≥ (L.ss.length:Int))=False:=eq_false (by omega)
      obtain ⟨s,es⟩:∃ s,s=L.ss.getD nn sgt0:=⟨_,rfl⟩
      have hs:L.ss[nn]?=some s:=by rw [es];exact getD_some (by omega)
      have hbd:badI L (nn:Int)=s.bad:=by unfold badI;rw [Int.toNat_natCast,es]
      have sR:=hS.ext (x3.trans (y4.trans y5))
      have ad:=sR.addr (P:=prog) (i:=(nn:Int)) Fc.el23 Fc.ar23 (by omega) (by omega)
      rw [Int.toNat_natCast] at ad
      have s3:fieldAddrA prog 56 (elAdr sv encS.z nn 0) 2=some (elAdr sv encS.z nn 3):=elAdr_field (P:=prog) (i:=nn) (o:=0) (off:=3) (q:=false) (n:=1) sR (by omega) (by kernel_rfl) (by decide)
      have s4:=sR.cell (P:=prog) Fc.ty4 hs (o:=3) (a:=.bool s.bad) rfl
      rcases Bool.eq_false_or_eq_true s.bad with qb|qb
      ·rw [qb] at s4 hbd
       have oe:(othM L (nn:Int)).2=7:=by rw [(othM_err d1).1];unfold othR;rw [if_neg (fun q=>q r1),if_neg (by rw [hbd];decide),wv];rfl
       have hsp:=@Nat.succ_ne_zero;repeat' (first|simp (disch:=first|exact dq|fail) only [go_sem,↓reduceIte,hsp,kZ1,kZ2,kZ3,kZ7,kZ8,kZ9,kZ10,kZ11,kZ12,t1,t3,gT3,gT4,gT5,e4,e5,l5,t1,gL5,lS,t20,t21,ad,s3,s4]|refine WP_drw ?_|refine cnd_intro (fun hsp=>?_) fun hsp=>?_)
       all_goals refine ⟨agq,y4.trans y5,by rw [wv],oe.symm,?_,_,rfl,(by rw [wv];exact Own.nil)⟩
       all_goals (rw [fe];split<;>first|rfl|(exfalso;omega)|(rw [wv];done)|(exfalso;simp_all;done)|(exfalso;simp_all;omega))
      ·rw [qb] at s4 hbd
       have oe:(othM L (nn:Int)).2=8:=by rw [(othM_err d1).1];unfold othR;rw [if_neg (fun q=>q r1),if_pos hbd]
       have hsp:=@Nat.succ_ne_zero;repeat' (first|simp (disch:=first|exact dq|fail) only [go_sem,↓reduceIte,hsp,kZ1,kZ2,kZ3,kZ7,kZ8,kZ9,kZ10,kZ11,kZ12,t1,t3,gT3,gT4,gT5,e4,e5,l5,t1,gL5,lS,t20,t21,ad,s3,s4]|refine WP_drw ?_|refine cnd_intro (fun hsp=>?_) fun hsp=>?_)
       all_goals refine ⟨agq,y4.trans y5,by rw [wv],oe.symm,?_,_,rfl,(by rw [wv];exact Own.nil)⟩
       all_goals (rw [fe];split<;>first|rfl|(exfalso;omega)|(rw [wv];done)|(exfalso;simp_all;done)|(exfalso;simp_all;omega))
     ·have oe:(othM L wh).2=1:=by rw [(othM_err d1).1];unfold othR;rw [if_pos r1]
      by_cases r2:wh<0
      ·have t20:(wh<0)=True:=eq_true r2
       have hsp:=@Nat.succ_ne_zero;repeat' (first|simp (disch:=first|exact dq|fail) only [go_sem,↓reduceIte,hsp,kZ1,kZ2,kZ3,kZ7,kZ8,kZ9,kZ10,kZ11,kZ12,t1,t3,gT3,gT4,gT5,e4,e5,l5,t1,gL5,lS,t20]|refine WP_drw ?_|refine cnd_intro (fun hsp=>?_) fun hsp=>?_)
       all_goals refine ⟨agq,y4.trans y5,by rw [wv],oe.symm,?_,_,rfl,(by rw [wv];exact Own.nil)⟩
       all_goals (rw [fe];split<;>first|rfl|(exfalso;omega)|(rw [wv];done)|(exfalso;simp_all;done)|(exfalso;simp_all;omega))
      ·have t20:(wh<0)=False:=eq_false r2
       have t21:(wh ≥ (L.ss.length:Int))=True:=eq_true (by omega)
       have hsp:=@Nat.succ_ne_zero;repeat' (first|simp (disch:=first|exact dq|fail) only [go_sem,↓reduceIte,hsp,kZ1,kZ2,kZ3,kZ7,kZ8,kZ9,kZ10,kZ11,kZ12,t1,t3,gT3,gT4,gT5,e4,e5,l5,t1,gL5,lS,t20,t21]|refine WP_drw ?_|refine cnd_intro (fun hsp=>?_) fun hsp=>?_)
       all_goals refine ⟨agq,y4.trans y5,by rw [wv],oe.symm,?_,_,rfl,(by rw [wv];exact Own.nil)⟩
       all_goals (rw [fe];split<;>first|rfl|(exfalso;omega)|(rw [wv];done)|(exfalso;simp_all;done)|(exfalso;simp_all;omega))
    ·have t3:((((allR L.T.toNat 0 L.ps.length).filter (xplM L)).length:Int) > 0)=True:=eq_true (by have:=List.length_pos_iff.2 c3;unfold trsR at this;omega)
     obtain ⟨t0,ht0⟩:=some_of d1 c3
     have wv:(wvrM L).2=0:=(wvrM_mem d1 ht0).1
     obtain ⟨x12,H6,e6,y6,oW⟩:=run_weaversR (base:=h.length) (ts:=(allR L.T.toNat 0 L.ps.length).filter (xplM L)) (Nat.le_trans hh3 (y4.trans y5).len) (((hP2.ext y3).ext y4).ext y5) (((hS2.ext y3).ext y4).ext y5) d1 n3' (oT.low (Nat.zero_le _)) (by omega) (fun t ht=>⟨((trsR_mem d1).1 ht).1.2,by have:=allR_len (List.mem_filter.1 ht).1;omega⟩)
     have weq:wvsR L ((allR L.T.toNat 0 L.ps.length).filter (xplM L)) L.ss.length=(wvrM L).1:=wvsR_eq d1 ht0
     rw [weq] at oW
     have f6:=oW.one
     have gL6:=((y4.trans y5).trans y6).get gL3
     have lS:=(hS.ext (x3.trans ((y4.trans y5).trans y6))).len (P:=prog) Fc.el23
     by_cases r1:0≤wh∧wh<(L.ss.length:Int)
     ·obtain ⟨nn,rfl⟩:=Int.eq_ofNat_of_zero_le r1.1
      have t20:((nn:Int)<0)=False:=eq_false (by omega)
      have t21:((nn:Int) ≥ (L.ss.length:Int))=False:=eq_false (by omega)
      obtain ⟨s,es⟩:∃ s,s=L.ss.getD nn sgt0:=⟨_,rfl⟩
      have hs:L.ss[nn]?=some s:=by rw [es];exact getD_some (by omega)
      have hbd:badI L (nn:Int)=s.bad:=by unfold badI;rw [Int.toNat_natCast,es]
      have sR:=hS.ext (x3.trans ((y4.trans y5).trans y6))
      have ad:=sR.addr (P:=prog) (i:=(nn:Int)) Fc.el23 Fc.ar23 (by omega) (by omega)
      rw [Int.toNat_natCast] at ad
      have s3:fieldAddrA prog 56 (elAdr sv encS.z nn 0) 2=some (elAdr sv encS.z nn 3):=elAdr_field (P:=prog) (i:=nn) (o:=0) (off:=3) (q:=false) (n:=1) sR (by omega) (by kernel_rfl) (by decide)
      have s4:=sR.cell (P:=prog) Fc.ty4 hs (o:=3) (a:=.bool s.bad) rfl
      rcases Bool.eq_false_or_eq_true s.bad with qb|qb
      ·rw [qb] at s4 hbd
       have wlen:=wvrM_len (L:=L)
       have dlen:=(deskL_A d1 ok).2.1
       have iW:Ints H6 x12 (wvrM L).1:=own_ints oW ⟨by omega,fun x hx=>by have:=(((wvrM_mem d1 ht0).2 x).1 hx).1.1;omega⟩
       have lW:=own_len oW Fc.el36 (by omega)
       have oe:(othM L (nn:Int)).2=if (nn:Int) ∈ (wvrM L).1 then 6 else 0:=by rw [(othM_err d1).1];unfold othR;rw [if_neg (fun q=>q r1),if_neg (by rw [hbd];decide),if_neg (by simp [wv])]
       have hsp:=@Nat.succ_ne_zero;repeat' (first|simp (disch:=first|exact dq|fail) only [go_sem,↓reduceIte,hsp,kZ1,kZ2,kZ3,kZ7,kZ8,kZ9,kZ10,kZ11,kZ12,t1,t3,gT3,gT4,gT5,e4,e5,l5,e6,gL6,lS,t20,t21,ad,s3,s4,lW,eq_self,not_true,decide_false]|refine WP_drw ?_|refine cnd_intro (fun hsp=>?_) fun hsp=>?_)
       refine WP_count [(10,10),(15,15),(49,56)] 0 (wvrM L).1.length (Nat.zero_le _) (fun _ n fr h'=>fr 49=.int .i64 (n:Int)∧h'=H6∧fr 10=.int .i64 (if (nn:Int) ∈ (wvrM L).1.take n then 6 else 0)) ?_ ?_ ?_
       ·exact ⟨by (simp (disch:=first|exact dq|fail) only [go_sem,↓reduceIte,Int.natCast_zero];first|done|rfl),rfl,by simp (disch:=first|exact dq|fail) only [go_sem,↓reduceIte,kZ1,kZ2,kZ3,kZ7,kZ8,kZ9,kZ10,kZ11,kZ12];simp [d1]⟩
       ·rintro n fr4 H7 hn0 hn hA4 ⟨r49,eH7,r10⟩
        subst eH7
        have a1:=hA4 1 rfl
        have a2:=hA4 2 rfl
        have a3:=hA4 3 rfl
        have a6:=hA4 6 rfl
        have a7:=hA4 7 rfl
        have a8:=hA4 8 rfl
        have a9:=hA4 9 rfl
        have a11:=hA4 11 rfl
        have a12:=hA4 12 rfl
        have a47:=hA4 47 rfl
        have a48:=hA4 48 rfl
        try simp (disch:=first|exact dq|fail) only [go_sem,↓reduceIte] at a1 a2 a3 a6 a7 a8 a9 a11 a12 a47 a48
        have pr1:=hA4 1 rfl
        simp (disch:=first|exact dq|fail) only [go_sem,↓reduceIte,kZ1,kZ2,kZ3,kZ7,kZ8,kZ9,kZ10,kZ11,kZ12] at pr1
        have hlt:((n:Int)<((wvrM L).1.length:Int))=True:=eq_true (by omega)
        have hx:(wvrM L).1[n]?=some ((wvrM L).1.getD n 0):=getD_some hn
        have tk:∀ z:Int,z ∈ (wvrM L).1.take (n+1) ↔ z ∈ (wvrM L).1.take n ∨ z=(wvrM L).1.getD n 0:=fun z=>by rw [List.take_add_one,hx];simp
        by_cases c8:(wvrM L).1.getD n 0=(nn:Int)
        ·have t8:((wvrM L).1.getD n 0=(nn:Int))=True:=eq_true c8
         have hsp:=@Nat.succ_ne_zero;repeat' (first|simp (disch:=first|exact dq|fail) only [go_sem,↓reduceIte,hsp,r49,r10,pr1,a1,a2,a3,a6,a7,a8,a9,a11,a12,a47,a48,hlt,t8]|refine WP_drw ?_|refine cnd_intro (fun hsp=>?_) fun hsp=>?_)
         exact ⟨agq,by omega,by rw [if_pos ((tk _).2 (.inr c8.symm))]⟩
        ·have t8:((wvrM L).1.getD n 0=(nn:Int))=False:=eq_false c8
         have tn:((nn:Int) ∈ (wvrM L).1.take (n+1))=((nn:Int) ∈ (wvrM L).1.take n):=propext ((tk _).trans ⟨fun q=>q.elim id fun q=>absurd q.symm c8,.inl⟩)
         have hsp:=@Nat.succ_ne_zero;repeat' (first|simp (disch:=first|exact dq|fail) only [go_sem,↓reduceIte,hsp,r49,r10,pr1,a1,a2,a3,a6,a7,a8,a9,a11,a12,a47,a48,hlt,t8]|refine WP_drw ?_|refine cnd_intro (fun hsp=>?_) fun hsp=>?_)
         exact ⟨agq,by omega,by simp only [tn]⟩
       ·rintro fr4 H7 hA4 ⟨r49,eH7,r10⟩
        subst eH7
        have a1:=hA4 1 rfl
        have a2:=hA4 2 rfl
        have a3:=hA4 3 rfl
        have a6:=hA4 6 rfl
        have a7:=hA4 7 rfl
        have a8:=hA4 8 rfl
        have a9:=hA4 9 rfl
        have a11:=hA4 11 rfl
        have a12:=hA4 12 rfl
        have a47:=hA4 47 rfl
        have a48:=hA4 48 rfl
        try simp (disch:=first|exact dq|fail) only [go_sem,↓reduceIte] at a1 a2 a3 a6 a7 a8 a9 a11 a12 a47 a48
        have pr2:=hA4 2 rfl
        simp (disch:=first|exact dq|fail) only [go_sem,↓reduceIte,kZ1,kZ2,kZ3,kZ7,kZ8,kZ9,kZ10,kZ11,kZ12] at pr2
        have pr9:=hA4 9 rfl
        simp (disch:=first|exact dq|fail) only [go_sem,↓reduceIte,kZ1,kZ2,kZ3,kZ7,kZ8,kZ9,kZ10,kZ11,kZ12] at pr9
        have pr12:=hA4 12 rfl
        simp (disch:=first|exact dq|fail) only [go_sem,↓reduceIte,kZ1,kZ2,kZ3,kZ7,kZ8,kZ9,kZ10,kZ11,kZ12] at pr12
        have hlt:(((wvrM L).1.length:Int)<((wvrM L).1.length:Int))=False:=eq_false (by omega)
        rw [List.take_length] at r10
        have hsp:=@Nat.succ_ne_zero;repeat' (first|simp (disch:=first|exact dq|fail) only [go_sem,↓reduceIte,hsp,r49,r10,pr2,pr9,pr12,a1,a2,a3,a6,a7,a8,a9,a11,a12,a47,a48,kZ1,kZ2,kZ3,kZ7,kZ8,kZ9,kZ10,kZ11,kZ12,hlt]|refine WP_drw ?_|refine cnd_intro (fun hsp=>?_) fun hsp=>?_)
        all_goals refine ⟨agq,(y4.trans y5).trans y6,by rw [wv],oe.symm,?_,_,rfl,(oW.low (Nat.zero_le _))⟩
        all_goals (rw [fe];split<;>first|rfl|(exfalso;omega)|(rw [wv];done)|(exfalso;simp_all;done)|(exfalso;simp_all;omega))
      ·rw [qb] at s4 hbd
       have oe:(othM L (nn:Int)).2=8:=by rw [(othM_err d1).1];unfold othR;rw [if_neg (fun q=>q r1),if_pos hbd]
       have hsp:=@Nat.succ_ne_zero;repeat' (first|simp (disch:=first|exact dq|fail) only [go_sem,↓reduceIte,hsp,kZ1,kZ2,kZ3,kZ7,kZ8,kZ9,kZ10,kZ11,kZ12,t1,t3,gT3,gT4,gT5,e4,e5,l5,e6,gL6,lS,t20,t21,ad,s3,s4]|refine WP_drw ?_|refine cnd_intro (fun hsp=>?_) fun hsp=>?_)
       all_goals refine ⟨agq,(y4.trans y5).trans y6,by rw [wv],oe.symm,?_,_,rfl,(oW.low (Nat.zero_le _))⟩
       all_goals (rw [fe];split<;>first|rfl|(exfalso;omega)|(rw [wv];done)|(exfalso;simp_all;done)|(exfalso;simp_all;omega))
     ·have oe:(othM L wh).2=1:=by rw [(othM_err d1).1];unfold othR;rw [if_pos r1]
      by_cases r2:wh<0
      ·have t20:(wh<0)=True:=eq_true r2
       have hsp:=@Nat.succ_ne_zero;repeat' (first|simp (disch:=first|exact dq|fail) only [go_sem,↓reduceIte,hsp,kZ1,kZ2,kZ3,kZ7,kZ8,kZ9,kZ10,kZ11,kZ12,t1,t3,gT3,gT4,gT5,e4,e5,l5,e6,gL6,lS,t20]|refine WP_drw ?_|refine cnd_intro (fun hsp=>?_) fun hsp=>?_)
       all_goals refine ⟨agq,(y4.trans y5).trans y6,by rw [wv],oe.symm,?_,_,rfl,(oW.low (Nat.zero_le _))⟩
       all_goals (rw [fe];split<;>first|rfl|(exfalso;omega)|(rw [wv];done)|(exfalso;simp_all;done)|(exfalso;simp_all;omega))
      ·have t20:(wh<0)=False:=eq_false r2
       have t21:(wh ≥ (L.ss.length:Int))=True:=eq_true (by omega)
       have hsp:=@Nat.succ_ne_zero;repeat' (first|simp (disch:=first|exact dq|fail) only [go_sem,↓reduceIte,hsp,kZ1,kZ2,kZ3,kZ7,kZ8,kZ9,kZ10,kZ11,kZ12,t1,t3,gT3,gT4,gT5,e4,e5,l5,e6,gL6,lS,t20,t21]|refine WP_drw ?_|refine cnd_intro (fun hsp=>?_) fun hsp=>?_)
       all_goals refine ⟨agq,(y4.trans y5).trans y6,by rw [wv],oe.symm,?_,_,rfl,(oW.low (Nat.zero_le _))⟩
       all_goals (rw [fe];split<;>first|rfl|(exfalso;omega)|(rw [wv];done)|(exfalso;simp_all;done)|(exfalso;simp_all;omega))
   ·have t1:(chkM L=0)=False:=eq_false d1
    have wv:=wvrM_bad d1
    have oe:othM L wh=([],chkM L):=by unfold othM;rw [if_pos d1]
    have fe:finM L pr=(0,chkM L):=by unfold finM;rw [if_pos d1]
    rw [wv,oe,fe]
    have hsp:=@Nat.succ_ne_zero;repeat' (first|simp (disch:=first|exact dq|fail) only [go_sem,↓reduceIte,hsp,kZ1,kZ2,kZ3,kZ7,kZ8,kZ9,kZ10,kZ11,kZ12,t1]|refine WP_drw ?_|refine cnd_intro (fun hsp=>?_) fun hsp=>?_)
    exact ⟨agq,.refl,_,rfl,Own.nil⟩
  ·rintro fr4 H4 ⟨hA4,y4,r9,r10,r11,x12,r12,o12⟩
   have z1:=hA4 1 rfl
   have z2:=hA4 2 rfl
   have z3:=hA4 3 rfl
   have z7:=hA4 7 rfl
   have z8:=hA4 8 rfl
   try simp (disch:=first|exact dq|fail) only [go_sem,↓reduceIte,kZ1,kZ2,kZ3,kZ7,kZ8] at z1 z2 z3 z7 z8
   have x4:=x3.trans y4
   have hh4:=x4.len
   have gL4:=y4.get gL3
   have gO4:=y4.get gO3
   have gT4:=y4.get gT3
   obtain ⟨_,H5,e5,y5,u5,rfl,o5⟩:=run_weavers (base:=h.length) hh4 (LO y4) ok
   have y45:=y4.trans y5
   obtain ⟨_,H6,e6,y6,u6,rfl,o6⟩:=run_Other (base:=h.length) (i:=wh) (Nat.le_trans hh4 y5.len) (LO y45) ok
   have y46:=y45.trans y6
   have e7:=fun base=>run_fine (base:=base) (p:=pr) (LO y46) ok
   have j12:=o12.one
   have j5:=o5.one
   have j6:=o6.one
   have hh6:=(x3.trans y46).len
   have gO5:=y5.get gO4
   have gO6:=y6.get gO5
   have gL6:=(y5.trans y6).get gL4
   have gT6:=(y5.trans y6).get gT4
   have sW:Small (wvrM L).1:=by
    by_cases d1:chkM L=0
    ·by_cases c3:trsR L=[]
     ·rw [wvrM_no d1 c3];exact ⟨by simp,by simp⟩
     ·obtain ⟨t0,ht0⟩:=some_of d1 c3
      have:=wvrM_len (L:=L)
      have:=(deskL_A d1 ok).2.1
      exact ⟨by omega,fun x hx=>by have:=(((wvrM_mem d1 ht0).2 x).1 hx).1.1;omega⟩
    ·rw [wvrM_bad d1];exact ⟨by simp,by simp⟩
   have i12:=own_ints (o12.ext (y5.trans y6)) sW
   have i5:=own_ints (o5.ext y6) sW
   have l12:=own_len (o12.ext (y5.trans y6)) Fc.el36 (by have:=sW.1;omega)
   have l12':=own_len o12 Fc.el36 (by have:=sW.1;omega)
   have eqI:=fun base=>run_eqI (base:=base) i5 i12
   have sam:=fun base (H:Heap) (x:Ext H6 H)=>run_same (base:=base) (LO (y46.trans x)) (hL.ext ((x3.trans y46).trans x)) (by omega) (by omega)
   have oz:(othM L wh).2 ≠ 0→(othM L wh).1=[]:=fun q=>by
    by_cases d1:chkM L=0
    ·rw [(othM_err d1).1] at q;exact (othM_err d1).2.1 q
    ·unfold othM;rw [if_pos d1]
   by_cases f0:(finM L pr).2=0
   ·have t0:((finM L pr).2=0)=True:=eq_true f0
    have fe:(finM L pr).1=pr * ((wvrM L).1.length:Int)∧0≤pr∧pr≤1000:=by
     unfold finM at f0 ⊢
     split at f0
     ·rename_i q;exact absurd f0 q
     ·rename_i q
      rw [if_neg q]
      split at f0
      ·cases f0
      ·rename_i q2
       rw [if_neg q2]
       split at f0
       ·rename_i q3;exact absurd f0 q3
       ·rename_i q3
        rw [if_neg q3]
        exact ⟨rfl,Classical.not_not.1 q2⟩
    have sl:=sW.1
    have mb:pr * ((wvrM L).1.length:Int)≤1000 * 1073741824:=Int.mul_le_mul fe.2.2 (by omega) (by omega) (by decide)
    have m0:0≤pr * ((wvrM L).1.length:Int):=Int.mul_nonneg fe.2.1 (by omega)
    have ml:binA prog .mul 3 (.int .i64 pr) (.int .i64 ((wvrM L).1.length:Int))=some (.int .i64 (pr * ((wvrM L).1.length:Int))):=by rw [bin_mul,wrap64 (by omega) (by omega)]
    rw [fe.1] at e7
    by_cases g0:(othM L wh).2=0
    ·have u0:((othM L wh).2=0)=True:=eq_true g0
     have d1:chkM L=0:=Classical.byContradiction fun q=>by unfold othM at g0;rw [if_pos q] at g0;exact q g0
     obtain ⟨m1,m2,m3⟩:=othM_err d1 (i:=wh)
     rw [m1] at g0
     obtain ⟨m4,m5⟩:=m3 g0
     have hin:0≤wh∧wh<(L.ss.length:Int):=Classical.byContradiction fun q=>by unfold othR at g0;rw [if_pos q] at g0;cases g0
     obtain ⟨nn,rfl⟩:=Int.eq_ofNat_of_zero_le hin.1
     have hs:L.ss[nn]?=some (sgtI L (nn:Int)):=by unfold sgtI;rw [Int.toNat_natCast];exact getD_some (by omega)
     obtain ⟨k1,k2,k3,k4,k5,k6⟩:=chkM_ok d1
     have tll:=truth_len' d1 m4.1
     obtain ⟨u7,H7,e8,y7,o7⟩:=run_brokenL (base:=h.length) hh6 (o6.rows (by omega)) (by omega)
     have j7:=o7.one
     have R7:=o7.rows (show (othM L (nn:Int)).1.length<2 ^ 60 by omega)
     have e9:=fun base=>run_truthR (base:=base) (((hP2.ext y3).ext y46).ext y7) q4 (by omega) (by omega) R7 (by omega)
     rw [truM_iff.2 m4.1] at e9
     obtain ⟨u8,H8,e10,y8,o8⟩:=run_leftR (base:=h.length) (Nat.le_trans hh6 y7.len) (((hP2.ext y3).ext y46).ext y7) (((hS2.ext y3).ext y46).ext y7) d1 n3' R7 (by omega) (truM_iff.2 m4.1)
     have lz:(lftM L (othM L (nn:Int)).1).1.length=0:=by have:=(xplM_iff d1).2 m4;rw [xplM_len d1 (truM_iff.2 m4.1)] at this;exact of_decide_eq_true this
     have l8:=own_len o8 Fc.el36 (by omega)
     rw [lz] at l8
     have j8:=o8.one
     have e11:=fun base=>run_weaverR (base:=base) ((((hP2.ext y3).ext y46).ext y7).ext y8) ((((hS2.ext y3).ext y46).ext y7).ext y8) d1 n3' (R7.ext y8) (by omega) m4.1.2 hs
     have wf:wvB L (othM L (nn:Int)).1 (sgtI L (nn:Int))=false:=by rw [Bool.eq_false_iff];exact fun q=>m5 ((wvB_iff m4.1.2).1 q)
     rw [wf] at e11
     have e12:=fun base=>sam base H8 (y7.trans y8)
     have gT7:=y7.get gT6
     have gT8:=y8.get gT7
     have gO8:=(y7.trans y8).get gO6
     have gL8:=(y7.trans y8).get gL6
     have hsp:=@Nat.succ_ne_zero;repeat' (first|simp (disch:=first|exact dq|fail) only [go_sem,↓reduceIte,hsp,r9,r10,r11,r12,z1,z2,z3,z7,z8,kZ1,kZ2,kZ3,kZ7,kZ8,kZ9,kZ10,kZ11,kZ12,t0,l12',ml,gO4,gO5,gO6,gL6,gT6,e5,e6,e7,l12,eqI,eq_self,not_true,decide_false,decide_true,Bool.false_eq_true,Bool.not_true,Bool.not_false,u0,e8,e9,gT7,gT8,gO8,gL8,e10,l8,e11,e12,run_awake,Int.natCast_zero]|refine WP_drw ?_|refine cnd_intro (fun hsp=>?_) fun hsp=>?_)
     exact fB rfl ((x3.trans y46).trans (y7.trans y8))
    ·have u0:((othM L wh).2=0)=False:=eq_false g0
     have l6:lenOpA prog H6 60 u6=some (.int .i64 (((othM L wh).1.length:Nat):Int)):=own_len o6 Fc.el60 (by rw [oz g0];simp)
     rw [oz g0] at l6
     have e12:=fun base=>sam base H6 .refl
     have hsp:=@Nat.succ_ne_zero;repeat' (first|simp (disch:=first|exact dq|fail) only [go_sem,↓reduceIte,hsp,r9,r10,r11,r12,z1,z2,z3,z7,z8,kZ1,kZ2,kZ3,kZ7,kZ8,kZ9,kZ10,kZ11,kZ12,t0,l12',ml,gO4,gO5,gO6,gL6,gT6,e5,e6,e7,l12,eqI,eq_self,not_true,decide_false,decide_true,Bool.false_eq_true,Bool.not_true,Bool.not_false,u0,l6,e12,run_awake,List.length_nil,Int.natCast_zero]|refine WP_drw ?_|refine cnd_intro (fun hsp=>?_) fun hsp=>?_)
     exact fB rfl (x3.trans y46)
   ·have t0:((finM L pr).2=0)=False:=eq_false f0
    have fz:(finM L pr).1=0:=by
     unfold finM at f0 ⊢
     split
     ·rfl
     ·split
      ·rfl
      ·split
       ·rfl
       ·rename_i a b c;exact absurd (by rw [if_neg a,if_neg b,if_neg c]) f0
    rw [fz] at e7
    by_cases g0:(othM L wh).2=0
    ·have u0:((othM L wh).2=0)=True:=eq_true g0
     have d1:chkM L=0:=Classical.byContradiction fun q=>by unfold othM at g0;rw [if_pos q] at g0;exact q g0
     obtain ⟨m1,m2,m3⟩:=othM_err d1 (i:=wh)
     rw [m1] at g0
     obtain ⟨m4,m5⟩:=m3 g0
     have hin:0≤wh∧wh<(L.ss.length:Int):=Classical.byContradiction fun q=>by unfold othR at g0;rw [if_pos q] at g0;cases g0
     obtain ⟨nn,rfl⟩:=Int.eq_ofNat_of_zero_le hin.1
     have hs:L.ss[nn]?=some (sgtI L (nn:Int)):=by unfold sgtI;rw [Int.toNat_natCast];exact getD_some (by omega)
     obtain ⟨k1,k2,k3,k4,k5,k6⟩:=chkM_ok d1
     have tll:=truth_len' d1 m4.1
     obtain ⟨u7,H7,e8,y7,o7⟩:=run_brokenL (base:=h.length) hh6 (o6.rows (by omega)) (by omega)
     have j7:=o7.one
     have R7:=o7.rows (show (othM L (nn:Int)).1.length<2 ^ 60 by omega)
     have e9:=fun base=>run_truthR (base:=base) (((hP2.ext y3).ext y46).ext y7) q4 (by omega) (by omega) R7 (by omega)
     rw [truM_iff.2 m4.1] at e9
     obtain ⟨u8,H8,e10,y8,o8⟩:=run_leftR (base:=h.length) (Nat.le_trans hh6 y7.len) (((hP2.ext y3).ext y46).ext y7) (((hS2.ext y3).ext y46).ext y7) d1 n3' R7 (by omega) (truM_iff.2 m4.1)
     have lz:(lftM L (othM L (nn:Int)).1).1.length=0:=by have:=(xplM_iff d1).2 m4;rw [xplM_len d1 (truM_iff.2 m4.1)] at this;exact of_decide_eq_true this
     have l8:=own_len o8 Fc.el36 (by omega)
     rw [lz] at l8
     have j8:=o8.one
     have e11:=fun base=>run_weaverR (base:=base) ((((hP2.ext y3).ext y46).ext y7).ext y8) ((((hS2.ext y3).ext y46).ext y7).ext y8) d1 n3' (R7.ext y8) (by omega) m4.1.2 hs
     have wf:wvB L (othM L (nn:Int)).1 (sgtI L (nn:Int))=false:=by rw [Bool.eq_false_iff];exact fun q=>m5 ((wvB_iff m4.1.2).1 q)
     rw [wf] at e11
     have e12:=fun base=>sam base H8 (y7.trans y8)
     have gT7:=y7.get gT6
     have gT8:=y8.get gT7
     have gO8:=(y7.trans y8).get gO6
     have gL8:=(y7.trans y8).get gL6
     have hsp:=@Nat.succ_ne_zero;repeat' (first|simp (disch:=first|exact dq|fail) only [go_sem,↓reduceIte,hsp,r9,r10,r11,r12,z1,z2,z3,z7,z8,kZ1,kZ2,kZ3,kZ7,kZ8,kZ9,kZ10,kZ11,kZ12,t0,gO4,gO5,gO6,gL6,gT6,e5,e6,e7,l12,eqI,eq_self,not_true,decide_false,decide_true,Bool.false_eq_true,Bool.not_true,Bool.not_false,u0,e8,e9,gT7,gT8,gO8,gL8,e10,l8,e11,e12,run_awake,Int.natCast_zero]|refine WP_drw ?_|refine cnd_intro (fun hsp=>?_) fun hsp=>?_)
     exact fB rfl ((x3.trans y46).trans (y7.trans y8))
    ·have u0:((othM L wh).2=0)=False:=eq_false g0
     have l6:lenOpA prog H6 60 u6=some (.int .i64 (((othM L wh).1.length:Nat):Int)):=own_len o6 Fc.el60 (by rw [oz g0];simp)
     rw [oz g0] at l6
     have e12:=fun base=>sam base H6 .refl
     have hsp:=@Nat.succ_ne_zero;repeat' (first|simp (disch:=first|exact dq|fail) only [go_sem,↓reduceIte,hsp,r9,r10,r11,r12,z1,z2,z3,z7,z8,kZ1,kZ2,kZ3,kZ7,kZ8,kZ9,kZ10,kZ11,kZ12,t0,gO4,gO5,gO6,gL6,gT6,e5,e6,e7,l12,eqI,eq_self,not_true,decide_false,decide_true,Bool.false_eq_true,Bool.not_true,Bool.not_false,u0,l6,e12,run_awake,List.length_nil,Int.natCast_zero]|refine WP_drw ?_|refine cnd_intro (fun hsp=>?_) fun hsp=>?_)
     exact fB rfl (x3.trans y46)
end Go.AM
