/-
  FaultLasts, walked.
-/
import Derived.Test.YtlhmeoeamcgcmaaGreatE72
import Derived.Test.YtlhmeoeamcgcmaaGreatE67
set_option linter.unusedSimpArgs false
set_option linter.unusedVariables false
namespace Go.AM
open Go.Proofs.Tryz
attribute [-go_sem] put_ne put_same
attribute [local go_sem ↓] put_if
theorem stE73 {base:Nat} {l:List Oper} {s:St} {Q:AExit→St→Prop}:WP prog raw base (.region 7 l.toArray false) s Q=WPS prog raw base (.region 7 l.toArray false) s Q:=WP_stop
attribute [local go_sem ↓ 3000] stE73
set_option maxRecDepth 100000 in
set_option maxHeartbeats 8000000 in
theorem run_FaultLasts {base:Nat} {h:Heap} {v0 v1:AVal} (hL0:LomN 1048576 h v0) (hw1:IntV h v1):callL prog raw base (.fn 3 [] []) [v0,v1] h=some (.bool true,h):=by
 obtain ⟨L,hL,_⟩:=hL0
 obtain ⟨q,rfl⟩:=hw1
 obtain ⟨pv,sv,eL,hP,hS⟩:=id hL
 have rg:=rib_rng hP
 have o1:=hP.one
 have o2:=hS.one
 obtain ⟨h2,eh2⟩:∃ h2,h2=h++[lmB L.R L.T pv sv]:=⟨_,rfl⟩
 have x2:Ext h h2:=by rw [eh2];exact .app .refl
 have hl2:h2.length=h.length+1:=by rw [eh2];simp
 have gr:=fun base=>run_wide (base:=base) (hL.ext x2)
 have gL2:h2[h.length]?=some (lmB L.R L.T pv sv):=by rw [eh2];exact get_eq rfl
 subst eL
 unfold lmB at eh2 gL2
 refine callL_run func3 rfl rfl ?_
 rcases Bool.eq_false_or_eq_true (wideM L) with hg|hg
 ·rw [hg] at gr
  have hsp:=@Nat.succ_ne_zero;repeat' (first|simp (disch:=first|exact dq|fail) only [go_sem,↓reduceIte,hsp,← eh2,gL2,gr,run_awake]|refine WP_drw ?_|refine cnd_intro (fun hsp=>?_) fun hsp=>?_)
  exact fB rfl x2
 ·rw [hg] at gr
  obtain ⟨hg2,hw3⟩:=wideM_no hg
  obtain ⟨n1,n2,n3⟩:=grtM_no hg2
  have sm:∀ p ∈ L.ps,Small p.rib:=fun p hp=>⟨by have:=n3 p hp;omega,rg p hp⟩
  have ok:=lomOk_small hg2 sm
  have n3':∀ p ∈ L.ps,p.rib.length≤1000:=fun p hp=>by have:=n3 p hp;omega
  obtain ⟨w1,H1,e1,y1,pw,sw,rfl,oP,oS⟩:=run_own (base:=h.length) (by omega) (hL.ext x2) (by omega) (by omega) n3'
  obtain ⟨w2,H2,e2,y2,px,sx,rfl,oPR,oSR⟩:=run_theirs (base:=h.length) (by have:=y1.len;omega) (hL.ext (x2.trans y1)) (by omega) (by omega) n3'
  have hP1:=((oP.parts (by omega) sm).ext y2)
  have hS1:=(((oS.rows (by omega):Rows encS H1 sw L.ss)).ext y2)
  have hP2:=oPR.parts (by omega) sm
  have hS2:=oSR.rows (by omega:L.ss.length<2 ^ 60)
  have q1:=hP1.one
  have q2:=hS1.one
  have q3:=hP2.one
  have q4:=hS2.one
  have gL1:=y1.get gL2
  have hh2:=((x2.trans y1).trans y2).len
  obtain ⟨H3,eH3⟩:∃ H3,H3=H2++[lmB L.R L.T pw sw]++[rlB L.R L.T px sx]:=⟨_,rfl⟩
  have y3:Ext H2 H3:=by rw [eH3];exact .app (.app .refl)
  have x3:=((x2.trans y1).trans y2).trans y3
  have hh3:=x3.len
  have hl3:H3.length=H2.length+2:=by rw [eH3];simp
  have y13:=(y1.trans y2).trans y3
  have gL3:=y13.get gL2
  have gO3:H3[H2.length]?=some (lmB L.R L.T pw sw):=by rw [eH3];exact get_app (get_eq rfl)
  have gT3:H3[H2.length+1]?=some (rlB L.R L.T px sx):=by rw [eH3];exact get_eq (by simp)
  have LO:∀ {H:Heap},Ext H3 H→LomAt H (lomV L.R L.T pw sw) L:=fun x=>⟨pw,sw,rfl,hP1.ext (y3.trans x),hS1.ext (y3.trans x)⟩
  have LR:∀ {H:Heap},Ext H3 H→LomAt H (lomV L.R L.T px sx) L:=fun x=>⟨px,sx,rfl,hP2.ext (y3.trans x),hS2.ext (y3.trans x)⟩
  have c1:=fun base=>run_chkR (base:=base) (LR .refl) (by omega) (by omega) n3'
  unfold lmB rlB at eH3
  unfold lmB at gO3
  unfold rlB at gT3
  have hsp:=@Nat.succ_ne_zero;repeat' (first|simp (disch:=first|exact dq|fail) only [go_sem,↓reduceIte,hsp,← eh2,gL2,gr,e1,gL1,e2,← eH3,c1,gO3,gT3]|refine WP_drw ?_|refine cnd_intro (fun hsp=>?_) fun hsp=>?_)
  refine WPS_restF fun Z eZ=>?_
  rw [← WP_seq]
  have kZ1:=congrFun eZ 1
  have kZ2:=congrFun eZ 2
  have kZ5:=congrFun eZ 5
  have kZ6:=congrFun eZ 6
  have kZ7:=congrFun eZ 7
  have kZ8:=congrFun eZ 8
  have kZ9:=congrFun eZ 9
  have kZ10:=congrFun eZ 10
  have kZ11:=congrFun eZ 11
  have kZ12:=congrFun eZ 12
  have kZ13:=congrFun eZ 13
  have kZ14:=congrFun eZ 14
  try simp (disch:=first|exact dq|fail) only [go_sem,↓reduceIte] at kZ1 kZ2 kZ5 kZ6 kZ7 kZ8 kZ9 kZ10 kZ11 kZ12 kZ13 kZ14
  clear eZ
  have lP2:∀ {H:Heap},Ext H3 H→lenOpA prog H 22 pv=some (.int .i64 (L.ps.length:Int)):=fun x=>(hP.ext (x3.trans x)).len
  refine WP_meet (fun fr h'=>Agree [(8,16),(37,74)] fr Z∧Ext H3 h'∧fr 8=.int .i64 (canM L q).2∧fr 9=.int .i64 (mstM L).2∧fr 10=.int .i64 (clsM L).2∧∃ a b c d,fr 11=a∧fr 12=b∧fr 13=c∧fr 14=d∧Own encI 3 0 h' a (canM L q).1∧Own encI 3 0 h' b (sryM L q).1∧Own encI 3 0 h' c (mstM L).1∧Own encI 3 0 h' d (clsM L).1) ?_ ?_
  ·rw [WP_seq,WP_region]
   by_cases d1:chkM L=0
   ·have t1:(chkM L=0)=True:=eq_true d1
    obtain ⟨k1,k2,k3,k4,k5,k6⟩:=chkM_ok d1
    obtain ⟨a1,H4,e4,y4,oA⟩:=run_AllR (base:=h.length) (h:=H3) (L:=L) k2 (by omega) q4 L.ps.length (k:=0) (by omega) (hw3 d1) hh3 (hP2.ext y3)
    obtain ⟨a2,H5,e5,y5,oT⟩:=run_truthsR (base:=h.length) (Nat.le_trans hh3 y4.len) ((hP2.ext y3).ext y4) ((hS2.ext y3).ext y4) d1 n3' (oA.low (Nat.zero_le _)) (hw3 d1) (fun t ht=>⟨truM_iff.2 ((allR_ok d1).1 ht),by have:=allR_len ht;omega⟩)
    have f1:=oA.one
    have f2:=oT.one
    have hfl:=List.length_filter_le (xplM L) (allR L.T.toNat 0 L.ps.length)
    have hw:=hw3 d1
    have l5:=oT.len (by omega)
    have gT4:=y4.get gT3
    have gT5:=y5.get gT4
    have y45:=y4.trans y5
    rw [Int.natCast_zero] at e4
    by_cases c3:trsR L=[]
    ·have t3:((((allR L.T.toNat 0 L.ps.length).filter (xplM L)).length:Int)=0)=True:=eq_true (by rw [show (allR L.T.toNat 0 L.ps.length).filter (xplM L)=[] from c3];rfl)
     have hn:¬ ∃ t,XpA L t:=fun ⟨t,ht⟩=>by have:=(trsR_mem d1).2 ht;rw [c3] at this;cases this
     have cl0:=(clsM_least d1 hn).1
     have wm:=must_none d1 c3
     obtain ⟨_,H6,e6,y6,cx,rfl,oC⟩:=run_clashR (base:=h.length) (Nat.le_trans hh3 y45.len) ((hP2.ext y3).ext y45) ((hS2.ext y3).ext y45) d1 n3' ((oA.low (Nat.zero_le _)).ext y5) (hw3 d1) (fun t ht=>⟨truM_iff.2 ((allR_ok d1).1 ht),by have:=allR_len ht;omega⟩)
     have cq:=clsR_eq d1 hn
     rw [cq] at oC
     have f3:=oC.one
     have y46:=y45.trans y6
     have gL6:=y46.get gL3
     have lP:=lP2 y46
     rw [cl0,wm]
     by_cases r1:0≤q∧q<(L.ps.length:Int)
     ·have t20:(q ≥ 0)=True:=eq_true r1.1
      have t21:(q<(L.ps.length:Int))=True:=eq_true r1.2
      obtain ⟨w1,w2⟩:=lasts_none d1 c3 r1
      rw [w1,w2]
      have hsp:=@Nat.succ_ne_zero;repeat' (first|simp (disch:=first|exact dq|fail) only [go_sem,↓reduceIte,hsp,kZ1,kZ2,kZ5,kZ6,kZ7,kZ8,kZ9,kZ10,kZ11,kZ12,kZ13,kZ14,t1,gT3,gT4,gT5,e4,e5,l5,t3,e6,gL6,lP,t20,t21]|refine WP_drw ?_|refine cnd_intro (fun hsp=>?_) fun hsp=>?_)
      exact ⟨agq,y46,_,_,_,_,rfl,rfl,rfl,rfl,Own.nil,Own.nil,Own.nil,oC⟩
     ·obtain ⟨w1,w2⟩:=lasts_out d1 r1
      rw [w1,w2]
      by_cases r2:q ≥ 0
      ·have t20:(q ≥ 0)=True:=eq_true r2
       have t21:(q<(L.ps.length:Int))=False:=eq_false (by omega)
       have hsp:=@Nat.succ_ne_zero;repeat' (first|simp (disch:=first|exact dq|fail) only [go_sem,↓reduceIte,hsp,kZ1,kZ2,kZ5,kZ6,kZ7,kZ8,kZ9,kZ10,kZ11,kZ12,kZ13,kZ14,t1,gT3,gT4,gT5,e4,e5,l5,t3,e6,gL6,lP,t20,t21]|refine WP_drw ?_|refine cnd_intro (fun hsp=>?_) fun hsp=>?_)
       exact ⟨agq,y46,_,_,_,_,rfl,rfl,rfl,rfl,Own.nil,Own.nil,Own.nil,oC⟩
      ·have t20:(q ≥ 0)=False:=eq_false r2
       have hsp:=@Nat.succ_ne_zero;repeat' (first|simp (disch:=first|exact dq|fail) only [go_sem,↓reduceIte,hsp,kZ1,kZ2,kZ5,kZ6,kZ7,kZ8,kZ9,kZ10,kZ11,kZ12,kZ13,kZ14,t1,gT3,gT4,gT5,e4,e5,l5,t3,e6,gL6,lP,t20]|refine WP_drw ?_|refine cnd_intro (fun hsp=>?_) fun hsp=>?_)
       exact ⟨agq,y46,_,_,_,_,rfl,rfl,rfl,rfl,Own.nil,Own.nil,Own.nil,oC⟩
    ·have t3:((((allR L.T.toNat 0 L.ps.length).filter (xplM L)).length:Int)=0)=False:=eq_false (by have:=List.length_pos_iff.2 c3;unfold trsR at this;omega)
     obtain ⟨t0,ht0⟩:=some_of d1 c3
     have cl0:=clsM_none d1 ht0
     have wm:=(mstM_mem d1 ht0).1
     have hts:∀ t ∈ (allR L.T.toNat 0 L.ps.length).filter (xplM L),t.length≤6:=fun t ht=>by have:=allR_len (List.mem_filter.1 ht).1;omega
     obtain ⟨mx,H6,e6,y6,oM⟩:=run_mustR (base:=h.length) (Nat.le_trans hh3 y45.len) ((hP2.ext y3).ext y45) q4 (by omega) (oT.low (Nat.zero_le _)) (by omega) hts
     have cq:mstR ((allR L.T.toNat 0 L.ps.length).filter (xplM L)) L.ps.length=(mstM L).1:=mstR_eq d1 ht0
     rw [cq] at oM
     have f3:=oM.one
     have y46:=y45.trans y6
     have gL6:=y46.get gL3
     have gT6:=y6.get gT5
     have lP:=lP2 y46
     rw [cl0,wm]
     by_cases r1:0≤q∧q<(L.ps.length:Int)
     ·have t20:(q ≥ 0)=True:=eq_true r1.1
      have t21:(q<(L.ps.length:Int))=True:=eq_true r1.2
      obtain ⟨_,H7,e7,y7,cx,cy,rfl,oX,oY⟩:=run_lasting (base:=h.length) (q:=q) (Nat.le_trans hh3 y46.len) ((hP2.ext y3).ext y46).one q4 k2 ((oT.low (Nat.zero_le _)).ext y6) (by omega) hts
      have cq1:canR ((allR L.T.toNat 0 L.ps.length).filter (xplM L)) q L.T.toNat=(canM L q).1:=canR_eq d1 ht0 r1
      have cq2:sryR ((allR L.T.toNat 0 L.ps.length).filter (xplM L)) q L.T.toNat=(sryM L q).1:=sryR_eq d1 ht0 r1
      rw [cq1] at oX
      rw [cq2] at oY
      have f4:=oX.one
      have f5:=oY.one
      have w1:=(canM_mem d1 ht0 r1).1
      rw [w1]
      have hsp:=@Nat.succ_ne_zero;repeat' (first|simp (disch:=first|exact dq|fail) only [go_sem,↓reduceIte,hsp,kZ1,kZ2,kZ5,kZ6,kZ7,kZ8,kZ9,kZ10,kZ11,kZ12,kZ13,kZ14,t1,gT3,gT4,gT5,e4,e5,l5,t3,e6,gL6,lP,t20,t21,gT6,e7]|refine WP_drw ?_|refine cnd_intro (fun hsp=>?_) fun hsp=>?_)
      exact ⟨agq,y46.trans y7,_,_,_,_,rfl,rfl,rfl,rfl,oX,oY,oM.ext y7,Own.nil⟩
     ·obtain ⟨w1,w2⟩:=lasts_out d1 r1
      rw [w1,w2]
      by_cases r2:q ≥ 0
      ·have t20:(q ≥ 0)=True:=eq_true r2
       have t21:(q<(L.ps.length:Int))=False:=eq_false (by omega)
       have hsp:=@Nat.succ_ne_zero;repeat' (first|simp (disch:=first|exact dq|fail) only [go_sem,↓reduceIte,hsp,kZ1,kZ2,kZ5,kZ6,kZ7,kZ8,kZ9,kZ10,kZ11,kZ12,kZ13,kZ14,t1,gT3,gT4,gT5,e4,e5,l5,t3,e6,gL6,lP,t20,t21]|refine WP_drw ?_|refine cnd_intro (fun hsp=>?_) fun hsp=>?_)
       exact ⟨agq,y46,_,_,_,_,rfl,rfl,rfl,rfl,Own.nil,Own.nil,oM,Own.nil⟩
      ·have t20:(q ≥ 0)=False:=eq_false r2
       have hsp:=@Nat.succ_ne_zero;repeat' (first|simp (disch:=first|exact dq|fail) only [go_sem,↓reduceIte,hsp,kZ1,kZ2,kZ5,kZ6,kZ7,kZ8,kZ9,kZ10,kZ11,kZ12,kZ13,kZ14,t1,gT3,gT4,gT5,e4,e5,l5,t3,e6,gL6,lP,t20]|refine WP_drw ?_|refine cnd_intro (fun hsp=>?_) fun hsp=>?_)
       exact ⟨agq,y46,_,_,_,_,rfl,rfl,rfl,rfl,Own.nil,Own.nil,oM,Own.nil⟩
   ·have t1:(chkM L=0)=False:=eq_false d1
    obtain ⟨w1,w2,w3,w4⟩:=lasts_bad d1 q
    rw [w1,w2,w3,w4]
    have hsp:=@Nat.succ_ne_zero;repeat' (first|simp (disch:=first|exact dq|fail) only [go_sem,↓reduceIte,hsp,kZ1,kZ2,kZ5,kZ6,kZ7,kZ8,kZ9,kZ10,kZ11,kZ12,kZ13,kZ14,t1]|refine WP_drw ?_|refine cnd_intro (fun hsp=>?_) fun hsp=>?_)
    exact ⟨agq,.refl,_,_,_,_,rfl,rfl,rfl,rfl,Own.nil,Own.nil,Own.nil,Own.nil⟩
  ·rintro fr4 H4 ⟨hA4,y4,z8,z9,z10,a,b,c,d,z11,z12,z13,z14,oa,ob,oc,od⟩
   have z1:=hA4 1 rfl
   have z2:=hA4 2 rfl
   have z5:=hA4 5 rfl
   have z6:=hA4 6 rfl
   have z7:=hA4 7 rfl
   try simp (disch:=first|exact dq|fail) only [go_sem,↓reduceIte,kZ1,kZ2,kZ5,kZ6,kZ7] at z1 z2 z5 z6 z7
   have x4:=x3.trans y4
   have hh4:=x4.len
   have gL4:=y4.get gL3
   have gO4:=y4.get gO3
   have hq0:=can_sry (L:=L) (k:=q)
   obtain ⟨m1,m2,m3,m4⟩:=lasts_small (L:=L) (k:=q)
   obtain ⟨_,H5,e5,y5,u5,rfl,o5⟩:=run_can (base:=h.length) (k:=q) hh4 (LO y4) ok
   have y45:=y4.trans y5
   obtain ⟨_,H6,e6,y6,u6,rfl,o6⟩:=run_surely (base:=h.length) (k:=q) (Nat.le_trans hh4 y5.len) (LO y45) ok
   have y46:=y45.trans y6
   obtain ⟨_,H7,e7,y7,u7,rfl,o7⟩:=run_must (base:=h.length) (Nat.le_trans hh4 (y5.trans y6).len) (LO y46) ok
   have y47:=y46.trans y7
   obtain ⟨_,H8,e8,y8,u8,rfl,o8⟩:=run_clash (base:=h.length) (Nat.le_trans hh4 ((y5.trans y6).trans y7).len) (LO y47) ok
   have y48:=y47.trans y8
   have y58:=((y5.trans y6).trans y7).trans y8
   rw [hq0] at e6
   have i1:=own_ints (o5.ext ((y6.trans y7).trans y8)) m1
   have i2:=own_ints (o6.ext (y7.trans y8)) m2
   have i3:=own_ints (o7.ext y8) m3
   have i4:=own_ints o8 m4
   have i5:=own_ints (oa.ext y58) m1
   have i6:=own_ints (ob.ext y58) m2
   have i7:=own_ints (oc.ext y58) m3
   have i8:=own_ints (od.ext y58) m4
   have q1:=fun base=>run_eqI (base:=base) i1 i5
   have q2:=fun base=>run_eqI (base:=base) i2 i6
   have q3':=fun base=>run_eqI (base:=base) i3 i7
   have q4':=fun base=>run_eqI (base:=base) i4 i8
   have n1:=o5.one
   have n2:=o6.one
   have n3:=o7.one
   have n4:=o8.one
   have n5:=oa.one
   have n6:=ob.one
   have n7:=oc.one
   have n8:=od.one
   have gO5:=y5.get gO4
   have gO6:=y6.get gO5
   have gO7:=y7.get gO6
   have gO8:=y8.get gO7
   have gL8:=y58.get gL4
   have sam:=fun base=>run_same (base:=base) (LO y48) (hL.ext (x3.trans y48)) (by omega) (by omega)
   have hh8:=(x3.trans y48).len
   have hsp:=@Nat.succ_ne_zero;repeat' (first|simp (disch:=first|exact dq|fail) only [go_sem,↓reduceIte,hsp,z1,z2,z5,z6,z7,z8,z9,z10,z11,z12,z13,z14,gO4,gO5,gO6,gO7,gO8,gL8,e5,e6,e7,e8,q1,q2,q3',q4',sam,run_awake,eq_self,decide_true]|refine WP_drw ?_|refine cnd_intro (fun hsp=>?_) fun hsp=>?_)
   exact fB rfl (x3.trans y48)
end Go.AM
