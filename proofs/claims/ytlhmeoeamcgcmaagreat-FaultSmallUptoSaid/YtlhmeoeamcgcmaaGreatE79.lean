/-
  FaultTruths, walked.
-/
import Derived.Test.YtlhmeoeamcgcmaaGreatE78
set_option linter.unusedSimpArgs false
set_option linter.unusedVariables false
namespace Go.AM
open Go.Proofs.Tryz
attribute [-go_sem] put_ne put_same
attribute [local go_sem ↓] put_if
theorem lft_small {L:Lom} {t:List Brk}:Small (lftM L t).1:=by
 unfold lftM
 split
 ·exact ⟨by simp,by simp⟩
 ·split
  ·exact ⟨by simp,by simp⟩
  ·rename_i c _
   have:=(chkM_ok (Classical.not_not.1 c)).2.2.2.1
   have h2:=lftN_len (S:=spoS L t t.length) (ss:=L.ss) (n:=L.ss.length)
   refine ⟨by show (lftN _ _ _).length<_;omega,fun x hx=>?_⟩
   have:=upto_mem.1 (List.mem_filter.1 hx).1
   omega
theorem xpl_len {L:Lom} {t:List Brk} (h:(lftM L t).2=0):xplM L t=decide (((lftM L t).1.length:Int)=0):=by
 unfold xplM
 rw [Bool.eq_iff_iff,decide_eq_true_eq,decide_eq_true_eq]
 exact ⟨fun q=>by rw [q.2];rfl,fun q=>⟨h,List.eq_nil_of_length_eq_zero (by omega)⟩⟩
theorem xpl_no {L:Lom} {t:List Brk} (h:(lftM L t).2 ≠ 0):xplM L t=false:=decide_eq_false fun q=>h q.1
theorem stE79a {base:Nat} {l:List Oper} {s:St} {Q:AExit→St→Prop}:WP prog raw base (.region 7 l.toArray false) s Q=WPS prog raw base (.region 7 l.toArray false) s Q:=WP_stop
attribute [local go_sem ↓ 3000] stE79a
theorem stE79b {base:Nat} {l:List Oper} {s:St} {Q:AExit→St→Prop}:WP prog raw base (.region 13 l.toArray false) s Q=WPS prog raw base (.region 13 l.toArray false) s Q:=WP_stop
attribute [local go_sem ↓ 3000] stE79b
theorem stE79c {base:Nat} {l:List Oper} {s:St} {Q:AExit→St→Prop}:WP prog raw base (.region 16 l.toArray false) s Q=WPS prog raw base (.region 16 l.toArray false) s Q:=WP_stop
attribute [local go_sem ↓ 3000] stE79c
set_option maxRecDepth 100000 in
set_option maxHeartbeats 8000000 in
theorem run_FaultTruths {base:Nat} {h:Heap} {v0 v1 v2:AVal} (hL0:LomN 1048576 h v0) (hT0:RowsN encB 1048576 h v1) (hs0:SgtV h v2):callL prog raw base (.fn 6 [] []) [v0,v1,v2] h=some (.bool true,h):=by
 obtain ⟨L,hL,_⟩:=hL0
 obtain ⟨t,hT,htN⟩:=hT0
 obtain ⟨s,es⟩:=hs0
 simp only [encS] at es
 subst es
 obtain ⟨pv,sv,eL,hP,hS⟩:=id hL
 have rg:=rib_rng hP
 have o1:=hP.one
 have o2:=hS.one
 have o3:=hT.one
 obtain ⟨h2,eh2⟩:∃ h2,h2=h++[lmB L.R L.T pv sv]++[sgB' s]:=⟨_,rfl⟩
 have x2:Ext h h2:=by rw [eh2];exact .app (.app .refl)
 have hl2:h2.length=h.length+2:=by rw [eh2];simp
 have gr:=fun base=>run_great (base:=base) (hL.ext x2)
 have gL2:h2[h.length]?=some (lmB L.R L.T pv sv):=by rw [eh2];exact get_app (get_eq rfl)
 have gS2:h2[h.length+1]?=some (sgB' s):=by rw [eh2];exact get_eq (by simp)
 have lT:=fun {H:Heap} (x:Ext h H)=>(hT.ext x).len (P:=prog) Fc.el60
 have lT2:=lT x2
 subst eL
 unfold lmB sgB' at eh2
 unfold lmB at gL2
 unfold sgB' at gS2
 refine callL_run func6 rfl rfl ?_
 by_cases hg0:grtM L=true ∨ 12<t.length
 ·rcases Bool.eq_false_or_eq_true (grtM L) with hg|hg
  ·rw [hg] at gr
   have hsp:=@Nat.succ_ne_zero;repeat' (first|simp (disch:=first|exact dq|fail) only [go_sem,↓reduceIte,hsp,← eh2,gL2,gr,run_awake]|refine WP_drw ?_|refine cnd_intro (fun hsp=>?_) fun hsp=>?_)
   exact fB rfl x2
  ·rw [hg] at gr
   have t1:((t.length:Int) > 12)=True:=eq_true (by have:=hg0.resolve_left (by rw [hg];decide);omega)
   have hsp:=@Nat.succ_ne_zero;repeat' (first|simp (disch:=first|exact dq|fail) only [go_sem,↓reduceIte,hsp,← eh2,gL2,gr,lT2,t1,run_awake]|refine WP_drw ?_|refine cnd_intro (fun hsp=>?_) fun hsp=>?_)
   exact fB rfl x2
 ·have hg:grtM L=false:=Bool.eq_false_iff.2 fun q=>hg0 (.inl q)
  have htl:t.length≤12:=Nat.le_of_not_lt fun q=>hg0 (.inr q)
  rw [hg] at gr
  have t1:((t.length:Int) > 12)=False:=eq_false (by omega)
  obtain ⟨n1,n2,n3⟩:=grtM_no hg
  have sm:∀ p ∈ L.ps,Small p.rib:=fun p hp=>⟨by have:=n3 p hp;omega,rg p hp⟩
  have ok:=lomOk_small hg sm
  have n3':∀ p ∈ L.ps,p.rib.length≤1000:=fun p hp=>by have:=n3 p hp;omega
  obtain ⟨w1,H1,e1,y1,pw,sw,rfl,oP,oS⟩:=run_own (base:=h.length) (by omega) (hL.ext x2) (by omega) (by omega) n3'
  obtain ⟨w2,H2,e2,y2,px,sx,rfl,oPR,oSR⟩:=run_theirs (base:=h.length) (by have:=y1.len;omega) (hL.ext (x2.trans y1)) (by omega) (by omega) n3'
  obtain ⟨w3,H3,e3,y3,oM⟩:=run_dupB (base:=h.length) (by have:=(y1.trans y2).len;omega) (hT.ext ((x2.trans y1).trans y2)) (by omega)
  obtain ⟨w4,H4,e4,y4,oB⟩:=run_brokenL (base:=h.length) (by have:=((y1.trans y2).trans y3).len;omega) (hT.ext (((x2.trans y1).trans y2).trans y3)) (by omega)
  have y24:=(y2.trans y3).trans y4
  have y14:=y1.trans y24
  have hP1:=((oP.parts (by omega) sm).ext y24)
  have hS1:=(((oS.rows (by omega):Rows encS H1 sw L.ss)).ext y24)
  have hP2:=(oPR.parts (by omega) sm).ext (y3.trans y4)
  have hS2:=(oSR.rows (by omega:L.ss.length<2 ^ 60)).ext (y3.trans y4)
  have hM4:=(oM.rows (by omega:t.length<2 ^ 60)).ext y4
  have hB4:=oB.rows (by omega:t.length<2 ^ 60)
  have q1:=hP1.one
  have q2:=hS1.one
  have q3:=hP2.one
  have q4:=hS2.one
  have q5:=hM4.one
  have q6:=hB4.one
  have hh4:=(x2.trans y14).len
  obtain ⟨H5,eH5⟩:∃ H5,H5=H4++[lmB L.R L.T pw sw]++[rlB L.R L.T px sx]:=⟨_,rfl⟩
  have y5:Ext H4 H5:=by rw [eH5];exact .app (.app .refl)
  have x5:=(x2.trans y14).trans y5
  have hh5:=x5.len
  have hl5:H5.length=H4.length+2:=by rw [eH5];simp
  have gL1:=y1.get gL2
  have gL5:=(y14.trans y5).get gL2
  have gS5:=(y14.trans y5).get gS2
  have gO5:H5[H4.length]?=some (lmB L.R L.T pw sw):=by rw [eH5];exact get_app (get_eq rfl)
  have gT5:H5[H4.length+1]?=some (rlB L.R L.T px sx):=by rw [eH5];exact get_eq (by simp)
  have LO:∀ {H:Heap},Ext H5 H→LomAt H (lomV L.R L.T pw sw) L:=fun x=>⟨pw,sw,rfl,hP1.ext (y5.trans x),hS1.ext (y5.trans x)⟩
  have LR:∀ {H:Heap},Ext H5 H→LomAt H (lomV L.R L.T px sx) L:=fun x=>⟨px,sx,rfl,hP2.ext (y5.trans x),hS2.ext (y5.trans x)⟩
  have LL:∀ {H:Heap},Ext H5 H→LomAt H (lomV L.R L.T pv sv) L:=fun x=>hL.ext (x5.trans x)
  have c1:=fun base=>run_chkR (base:=base) (LR .refl) (by omega) (by omega) n3'
  unfold lmB rlB at eH5
  unfold lmB at gO5
  unfold rlB at gT5
  have hsp:=@Nat.succ_ne_zero;repeat' (first|simp (disch:=first|exact dq|fail) only [go_sem,↓reduceIte,hsp,← eh2,gL2,gr,lT2,t1,e1,gL1,e2,e3,e4,← eH5,c1,gO5,gT5]|refine WP_drw ?_|refine cnd_intro (fun hsp=>?_) fun hsp=>?_)
  refine WPS_restF fun Z eZ=>?_
  rw [← WP_seq]
  have kZ1:=congrFun eZ 1
  have kZ3:=congrFun eZ 3
  have kZ5:=congrFun eZ 5
  have kZ6:=congrFun eZ 6
  have kZ7:=congrFun eZ 7
  have kZ8:=congrFun eZ 8
  have kZ9:=congrFun eZ 9
  have kZ10:=congrFun eZ 10
  have kZ11:=congrFun eZ 11
  have kZ12:=congrFun eZ 12
  have kZ13:=congrFun eZ 13
  try simp (disch:=first|exact dq|fail) only [go_sem,↓reduceIte] at kZ1 kZ3 kZ5 kZ6 kZ7 kZ8 kZ9 kZ10 kZ11 kZ12 kZ13
  clear eZ
  refine WP_meet (fun fr h'=>Agree [(12,13),(42,51)] fr Z∧Ext H5 h'∧fr 12=.int .i64 (lftM L t).2∧∃ x13,fr 13=x13∧Own encI 3 0 h' x13 (lftM L t).1) ?_ ?_
  ·rw [WP_seq,WP_region]
   by_cases d1:chkM L=0
   ·have t1:(chkM L=0)=True:=eq_true d1
    obtain ⟨k1,k2,k3,k4,k5,k6⟩:=chkM_ok d1
    have et:=fun base=>run_truthR (base:=base) (hP2.ext y5) q4 (by omega) (by omega) (hB4.ext y5) (by omega)
    by_cases d2:truM L t=0
    ·have t2:(truM L t=0)=True:=eq_true d2
     obtain ⟨u7,H7,e7,y7,o7⟩:=run_leftR (base:=h.length) hh5 (hP2.ext y5) (hS2.ext y5) d1 n3' (hB4.ext y5) (by omega) d2
     have j7:=o7.one
     have el:(lftM L t).2=0:=by unfold lftM;rw [if_neg (by simp [d1]),if_neg (by simp [d2])]
     rw [el]
     have hsp:=@Nat.succ_ne_zero;repeat' (first|simp (disch:=first|exact dq|fail) only [go_sem,↓reduceIte,hsp,kZ1,kZ3,kZ5,kZ6,kZ7,kZ8,kZ9,kZ10,kZ11,kZ12,kZ13,t1,gT5,et,t2,e7]|refine WP_drw ?_|refine cnd_intro (fun hsp=>?_) fun hsp=>?_)
     exact ⟨agq,y7,_,rfl,o7.low (Nat.zero_le _)⟩
    ·have t2:(truM L t=0)=False:=eq_false d2
     have el:lftM L t=([],truM L t):=by unfold lftM;rw [if_neg (by simp [d1]),if_pos d2]
     rw [el]
     have hsp:=@Nat.succ_ne_zero;repeat' (first|simp (disch:=first|exact dq|fail) only [go_sem,↓reduceIte,hsp,kZ1,kZ3,kZ5,kZ6,kZ7,kZ8,kZ9,kZ10,kZ11,kZ12,kZ13,t1,gT5,et,t2]|refine WP_drw ?_|refine cnd_intro (fun hsp=>?_) fun hsp=>?_)
     exact ⟨agq,.refl,_,rfl,Own.nil⟩
   ·have t1:(chkM L=0)=False:=eq_false d1
    have el:lftM L t=([],chkM L):=by unfold lftM;rw [if_pos d1]
    rw [el]
    have hsp:=@Nat.succ_ne_zero;repeat' (first|simp (disch:=first|exact dq|fail) only [go_sem,↓reduceIte,hsp,kZ1,kZ3,kZ5,kZ6,kZ7,kZ8,kZ9,kZ10,kZ11,kZ12,kZ13,t1]|refine WP_drw ?_|refine cnd_intro (fun hsp=>?_) fun hsp=>?_)
    exact ⟨agq,.refl,_,rfl,Own.nil⟩
  ·rintro fr6 H6 ⟨hA6,y6,z12,x13,z13,o13⟩
   have z1:=hA6 1 rfl
   have z3:=hA6 3 rfl
   have z5:=hA6 5 rfl
   have z6:=hA6 6 rfl
   have z7:=hA6 7 rfl
   have z8:=hA6 8 rfl
   have z9:=hA6 9 rfl
   have z10:=hA6 10 rfl
   have z11:=hA6 11 rfl
   try simp (disch:=first|exact dq|fail) only [go_sem,↓reduceIte,kZ1,kZ3,kZ5,kZ6,kZ7,kZ8,kZ9,kZ10,kZ11] at z1 z3 z5 z6 z7 z8 z9 z10 z11
   have j13:=o13.one
   have hh6:=(x5.trans y6).len
   have gO6:=y6.get gO5
   have hM6:=(hM4.ext y5).ext y6
   have e7:=fun base=>run_explains (base:=base) (LO y6) ok hM6 (by omega)
   obtain ⟨_,H7,e8,y7,u7,rfl,o7⟩:=run_Left (base:=h.length) hh6 (LO y6) ok hM6 (by omega)
   have j7:=o7.one
   have hh7:=((x5.trans y6).trans y7).len
   have i7:=own_ints o7 lft_small
   have i13:=own_ints (o13.ext y7) lft_small
   have eqI:=fun base=>run_eqI (base:=base) i7 i13
   have l13:=own_len (o13.ext y7) Fc.el36 (by have:=(lft_small (L:=L) (t:=t)).1;omega)
   have y57:=y6.trans y7
   have gL7:=y57.get gL5
   have gO7:=y57.get gO5
   have gT7:=y57.get gT5
   have gS7:=y57.get gS5
   have hsp:=@Nat.succ_ne_zero;repeat' (first|simp (disch:=first|exact dq|fail) only [go_sem,↓reduceIte,hsp,z1,z3,z5,z6,z7,z8,z9,z10,z11,z12,z13,gO6,e7,e8]|refine WP_drw ?_|refine cnd_intro (fun hsp=>?_) fun hsp=>?_)
   refine WPS_restF fun Y eY=>?_
   skip
   have kY1:=congrFun eY 1
   have kY3:=congrFun eY 3
   have kY5:=congrFun eY 5
   have kY6:=congrFun eY 6
   have kY7:=congrFun eY 7
   have kY8:=congrFun eY 8
   have kY9:=congrFun eY 9
   have kY10:=congrFun eY 10
   have kY11:=congrFun eY 11
   have kY12:=congrFun eY 12
   have kY13:=congrFun eY 13
   have kY14:=congrFun eY 14
   have kY15:=congrFun eY 15
   have kY16:=congrFun eY 16
   have kY17:=congrFun eY 17
   try simp (disch:=first|exact dq|fail) only [go_sem,↓reduceIte,z1,z3,z5,z6,z7,z8,z9,z10,z11,z12,z13] at kY1 kY3 kY5 kY6 kY7 kY8 kY9 kY10 kY11 kY12 kY13 kY14 kY15 kY16 kY17
   clear eY
   refine WP_meet (fun fr h'=>Agree [(64,88)] fr Y∧h'=H7∧fr 88=.bool false) ?_ ?_
   ·rw [WP_region]
    by_cases d3:(lftM L t).2=0
    ·have t3:((lftM L t).2=0)=True:=eq_true d3
     have xq:=xpl_len d3
     by_cases d4:(((lftM L t).1.length:Int)=0)
     ·have t4:(((lftM L t).1.length:Int)=0)=True:=eq_true d4
      have hsp:=@Nat.succ_ne_zero;repeat' (first|simp (disch:=first|exact dq|fail) only [go_sem,↓reduceIte,hsp,kY1,kY3,kY5,kY6,kY7,kY8,kY9,kY10,kY11,kY12,kY13,kY14,kY15,kY16,kY17,t3,l13,xq,t4,eqI,eq_self,not_true,decide_false,decide_true,neB]|refine WP_drw ?_|refine cnd_intro (fun hsp=>?_) fun hsp=>?_)
      all_goals exact agq
     ·have t4:(((lftM L t).1.length:Int)=0)=False:=eq_false d4
      have hsp:=@Nat.succ_ne_zero;repeat' (first|simp (disch:=first|exact dq|fail) only [go_sem,↓reduceIte,hsp,kY1,kY3,kY5,kY6,kY7,kY8,kY9,kY10,kY11,kY12,kY13,kY14,kY15,kY16,kY17,t3,l13,xq,t4,eqI,eq_self,not_true,decide_false,decide_true,neB]|refine WP_drw ?_|refine cnd_intro (fun hsp=>?_) fun hsp=>?_)
      all_goals exact agq
    ·have t3:((lftM L t).2=0)=False:=eq_false d3
     have xq:=xpl_no d3
     have hsp:=@Nat.succ_ne_zero;repeat' (first|simp (disch:=first|exact dq|fail) only [go_sem,↓reduceIte,hsp,kY1,kY3,kY5,kY6,kY7,kY8,kY9,kY10,kY11,kY12,kY13,kY14,kY15,kY16,kY17,t3,l13,xq,eqI,eq_self,not_true,decide_false,decide_true,neB]|refine WP_drw ?_|refine cnd_intro (fun hsp=>?_) fun hsp=>?_)
     all_goals exact agq
   ·rintro fr7 K7 ⟨hA7,eK7,y88⟩
    subst eK7
    have ky1:=hA7 1 rfl
    have ky3:=hA7 3 rfl
    have ky5:=hA7 5 rfl
    have ky6:=hA7 6 rfl
    have ky7:=hA7 7 rfl
    have ky8:=hA7 8 rfl
    have ky9:=hA7 9 rfl
    have ky10:=hA7 10 rfl
    have ky11:=hA7 11 rfl
    try simp (disch:=first|exact dq|fail) only [go_sem,↓reduceIte,kY1,kY3,kY5,kY6,kY7,kY8,kY9,kY10,kY11] at ky1 ky3 ky5 ky6 ky7 ky8 ky9 ky10 ky11
    obtain ⟨H8,eH8⟩:∃ H8,H8=K7++[lmB 0 0 (.slice none 0 0) (.slice none 0 0)]:=⟨_,rfl⟩
    have x78:Ext K7 H8:=by rw [eH8];exact .app .refl
    have hl8:H8.length=K7.length+1:=by rw [eH8];simp
    have g88:H8[K7.length]?=some (lmB 0 0 (.slice none 0 0) (.slice none 0 0)):=by rw [eH8];exact get_eq rfl
    unfold lmB at eH8
    have hsp:=@Nat.succ_ne_zero;repeat' (first|simp (disch:=first|exact dq|fail) only [go_sem,↓reduceIte,hsp,ky1,ky3,ky5,ky6,ky7,ky8,ky9,ky10,ky11,y88,← eH8]|refine WP_drw ?_|refine cnd_intro (fun hsp=>?_) fun hsp=>?_)
    refine WPS_restF fun X eX=>?_
    rw [← WP_seq]
    have kX1:=congrFun eX 1
    have kX3:=congrFun eX 3
    have kX5:=congrFun eX 5
    have kX6:=congrFun eX 6
    have kX7:=congrFun eX 7
    have kX8:=congrFun eX 8
    have kX9:=congrFun eX 9
    have kX10:=congrFun eX 10
    have kX11:=congrFun eX 11
    have kX18:=congrFun eX 18
    try simp (disch:=first|exact dq|fail) only [go_sem,↓reduceIte,ky1,ky3,ky5,ky6,ky7,ky8,ky9,ky10,ky11] at kX1 kX3 kX5 kX6 kX7 kX8 kX9 kX10 kX11 kX18
    clear eX
    have gL8:=x78.get gL7
    have gS8:=x78.get gS7
    have y58:=y57.trans x78
    refine WP_meet (fun fr h'=>Agree [(11,11),(89,108)] fr X∧Ext K7 h'∧fr 11=.int .i64 (seeM L s)∧∃ qv rv,h'[K7.length]?=some (lmB (seeL L s).R (seeL L s).T qv rv)∧LomAt h' (lomV (seeL L s).R (seeL L s).T qv rv) (seeL L s)) ?_ ?_
    ·rw [WP_seq,WP_region]
     have zero:∀ H:Heap,LomAt H (lomV 0 0 (.slice none 0 0) (.slice none 0 0)) lom0:=fun H=>⟨_,_,rfl,⟨[],Rows.nil,rfl,by simp⟩,Rows.nil⟩
     by_cases d1:chkM L=0
     ·have t1:(chkM L=0)=True:=eq_true d1
      have lS8:lenOpA prog H8 23 sv=some (.int .i64 (L.ss.length:Int)):=(hS.ext (x5.trans y58)).len Fc.el23
      obtain ⟨k1,k2,k3,k4,k5,k6⟩:=chkM_ok d1
      by_cases d2:L.ss.length=10
      ·have t2:((L.ss.length:Int)<10)=False:=eq_false (by omega)
       have r:seeM L s=9:=by unfold seeM;rw [if_neg (by simp [d1]),if_pos d2]
       have rl:seeL L s=lom0:=by unfold seeL;rw [if_neg (by rw [r];decide)]
       rw [r,rl]
       have hsp:=@Nat.succ_ne_zero;repeat' (first|simp (disch:=first|exact dq|fail) only [go_sem,↓reduceIte,hsp,kX1,kX3,kX5,kX6,kX7,kX8,kX9,kX10,kX11,kX18,t1,gL8,lS8,t2]|refine WP_drw ?_|refine cnd_intro (fun hsp=>?_) fun hsp=>?_)
       exact ⟨agq,x78,_,_,g88,zero _⟩
      ·have t2:((L.ss.length:Int)<10)=True:=eq_true (by omega)
       have r:seeM L s=chkM (moreL L s):=by unfold seeM;rw [if_neg (by simp [d1]),if_neg d2]
       obtain ⟨_,H9,e9,y9,pu,su,rfl,oPu,oSu⟩:=run_own (base:=h.length) (by have:=x78.len;omega) (LL y58) (by omega) (by omega) n3'
       have g98:=y9.get g88
       have m1:=oPu.one
       have m2:=oSu.one
       have hl9:=y9.len
       obtain ⟨HA,eHA⟩:∃ HA,HA=H9.set K7.length (lmB L.R L.T pu su):=⟨_,rfl⟩
       have hlA:HA.length=H9.length:=by rw [eHA,List.length_set]
       have xA:Ext K7 HA:=by rw [eHA];exact (x78.trans y9).set (Nat.le_refl _)
       have gA:HA[K7.length]?=some (lmB L.R L.T pu su):=by rw [eHA,List.getElem?_set_self (by omega)]
       have oPA:OwnQ H8.length HA pu L.ps:=by rw [eHA];exact oPu.setBox g98
       have oSA:OwnE encS 56 H8.length HA su L.ss:=by rw [eHA];exact oSu.setBox g98
       have gSA:=xA.get gS7
       obtain ⟨su2,HB,eB,oSB,hlB,xB,m3,kB⟩:=(oSA.ext (.app (t:=[rowE encS 56 [s] 0]) .refl)).appendRX (x:=.slice (some ⟨HA.length,0,0⟩) 1 1) (m:=[s]) (base:=h.length) (t:=23) (Rows.own (get_eq rfl) rfl (by simp)) Fc.el23 encS_sc (by omega) (by simp;omega) (by simp) (by simp;omega)
       have xKB:Ext K7 HB:=xB K7 (by omega) (xA.trans (.app .refl))
       have oPB:OwnQ H8.length HB pu L.ps:=(oPA.ext (.app (t:=[rowE encS 56 [s] 0]) .refl)).mapH (fun _ _ q=>kB.own q (by decide)) fun _ _ q=>kB.ownE q (by decide)
       have gB:HB[K7.length]?=some (lmB L.R L.T pu su):=kB.box (get_app gA)
       obtain ⟨HC,eHC⟩:∃ HC,HC=HB.set K7.length (lmB L.R L.T pu su2):=⟨_,rfl⟩
       have hlA2:(HA++[rowE encS 56 [s] 0]).length=HA.length+1:=by simp
       have hlC:HC.length=HB.length:=by rw [eHC,List.length_set]
       have xC:Ext K7 HC:=by rw [eHC];exact xKB.set (Nat.le_refl _)
       have gC:HC[K7.length]?=some (lmB L.R L.T pu su2):=by rw [eHC,List.getElem?_set_self (by omega)]
       have oPC:OwnQ H8.length HC pu L.ps:=by rw [eHC];exact oPB.setBox gB
       have oSC:Own encS 56 H8.length HC su2 (L.ss++[s]):=by rw [eHC];exact oSB.setBox gB
       have LC:LomAt HC (lomV L.R L.T pu su2) (moreL L s):=⟨pu,su2,rfl,oPC.parts (by show L.ps.length<_;omega) sm,oSC.rows (by simp;omega)⟩
       obtain ⟨_,HD,eD,yD,pu3,su3,rfl,oPD,oSD⟩:=run_theirs (base:=h.length) (by omega) LC (by show L.ps.length≤_;omega) (by simp [moreL];omega) (fun p hp=>n3' p hp)
       have m4:=oPD.one
       have m5:=oSD.one
       have hlD:=yD.len
       have LD:LomAt HD (lomV (moreL L s).R (moreL L s).T pu3 su3) (moreL L s):=⟨pu3,su3,rfl,oPD.parts (by show L.ps.length<_;omega) sm,oSD.rows (by simp [moreL];omega)⟩
       have cD:=fun base=>run_chkR (base:=base) LD (by show L.ps.length≤_;omega) (by simp [moreL];omega) (fun p hp=>n3' p hp)
       have xD:=xC.trans yD
       have gD:=yD.get gC
       have bs1':∀ {lit:Bool} {A:Heap},bsA prog lit A 23 1 [(0,.agg [.int .i64 s.rib,.int .i64 s.lo,.int .i64 s.hi,.bool s.bad])]=some (.slice (some ⟨A.length,0,0⟩) 1 1,A++[rowE encS 56 [s] 0]):=fun {lit A}=>bsS1
       rw [← r] at cD
       unfold lmB at g88 g98 eHA gA gB eHC gC gD
       by_cases d3:seeM L s=0
       ·have t3:(seeM L s=0)=True:=eq_true d3
        have rl:seeL L s=moreL L s:=by unfold seeL;rw [if_pos d3]
        rw [d3] at cD
        rw [d3,rl]
        have hsp:=@Nat.succ_ne_zero;repeat' (first|simp (disch:=first|exact dq|fail) only [go_sem,↓reduceIte,hsp,kX1,kX3,kX5,kX6,kX7,kX8,kX9,kX10,kX11,kX18,t1,gL8,lS8,t2,e9,g88,g98,← eHA,gA,gSA,bs1',eB,gB,← eHC,gC,eD,cD,eq_self,not_true,decide_false]|refine WP_drw ?_|refine cnd_intro (fun hsp=>?_) fun hsp=>?_)
        exact ⟨agq,xD,_,_,gD,LC.ext yD⟩
       ·have t3:(seeM L s=0)=False:=eq_false d3
        have rl:seeL L s=lom0:=by unfold seeL;rw [if_neg d3]
        have zl:buildA prog 25 []=some (.agg [.int .i64 0,.int .i64 0,.slice none 0 0,.slice none 0 0]):=by kernel_rfl
        rw [rl]
        have hsp:=@Nat.succ_ne_zero;repeat' (first|simp (disch:=first|exact dq|fail) only [go_sem,↓reduceIte,hsp,kX1,kX3,kX5,kX6,kX7,kX8,kX9,kX10,kX11,kX18,t1,gL8,lS8,t2,e9,g88,g98,← eHA,gA,gSA,bs1',eB,gB,← eHC,gC,eD,cD,t3,gD,zl,not_false_iff,decide_true]|refine WP_drw ?_|refine cnd_intro (fun hsp=>?_) fun hsp=>?_)
        exact ⟨agq,xD.set (Nat.le_refl _),_,_,rfl,zero _⟩
     ·have t1:(chkM L=0)=False:=eq_false d1
      have r:seeM L s=chkM L:=by unfold seeM;rw [if_pos d1]
      have rl:seeL L s=lom0:=by unfold seeL;rw [if_neg (by rw [r];exact d1)]
      rw [r,rl]
      have hsp:=@Nat.succ_ne_zero;repeat' (first|simp (disch:=first|exact dq|fail) only [go_sem,↓reduceIte,hsp,kX1,kX3,kX5,kX6,kX7,kX8,kX9,kX10,kX11,kX18,t1]|refine WP_drw ?_|refine cnd_intro (fun hsp=>?_) fun hsp=>?_)
      exact ⟨agq,x78,_,_,g88,zero _⟩
    ·rintro fr8 H9 ⟨hA8,y79,kx11,qv,rv,g9,LM⟩
     have kx1:=hA8 1 rfl
     have kx3:=hA8 3 rfl
     have kx5:=hA8 5 rfl
     have kx6:=hA8 6 rfl
     have kx7:=hA8 7 rfl
     have kx8:=hA8 8 rfl
     have kx9:=hA8 9 rfl
     have kx10:=hA8 10 rfl
     have kx18:=hA8 18 rfl
     try simp (disch:=first|exact dq|fail) only [go_sem,↓reduceIte,kX1,kX3,kX5,kX6,kX7,kX8,kX9,kX10,kX18] at kx1 kx3 kx5 kx6 kx7 kx8 kx9 kx10 kx18
     have y59:=y57.trans y79
     have hh9:=(x5.trans y59).len
     have gO9:=y79.get gO7
     have gS9:=y79.get gS7
     have gL9:=y79.get gL7
     obtain ⟨s1,s2,s3⟩:=seeL_len (s:=s) n1 n2
     obtain ⟨_,HE,eE,yE,qv2,rv2,rfl,oQ,oR⟩:=run_see2 (base:=h.length) (s:=s) hh9 (LO y59) ok
     have m1:=oQ.one
     have m2:=oR.one
     have hE9:=yE.len
     obtain ⟨HF,eHF⟩:∃ HF,HF=HE++[lmB (seeL L s).R (seeL L s).T qv2 rv2]:=⟨_,rfl⟩
     have yF:Ext HE HF:=by rw [eHF];exact .app .refl
     have hlF:HF.length=HE.length+1:=by rw [eHF];simp
     have gF:HF[HE.length]?=some (lmB (seeL L s).R (seeL L s).T qv2 rv2):=by rw [eHF];exact get_eq rfl
     have oQF:=oQ.ext yF
     have oRF:=oR.ext yF
     have smM:∀ p ∈ (seeL L s).ps,Small p.rib:=fun p hp=>sm p (s3 p hp)
     have P0:=oQF.parts (by omega) smM
     have LMo:LomAt HF (lomV (seeL L s).R (seeL L s).T qv2 rv2) (seeL L s):=⟨qv2,rv2,rfl,P0,oRF.rows (by omega)⟩
     have y9F:=yE.trans yF
     have sam1:=fun base=>run_same (base:=base) LMo (LM.ext y9F) s1 s2
     have gMF:=y9F.get g9
     have lP0:lenOpA prog HF 22 qv2=some (.int .i64 ((seeL L s).ps.length:Int)):=P0.len
     obtain ⟨vs,v1,v2,v3⟩:=oQF
     unfold lmB at eHF gF g9 gMF
     have hsp:=@Nat.succ_ne_zero;repeat' (first|simp (disch:=first|exact dq|fail) only [go_sem,↓reduceIte,hsp,kx1,kx3,kx5,kx6,kx7,kx8,kx9,kx10,kx18,kx11,gO9,gS9,eE,← eHF,gF,gMF,sam1,lP0,eq_self,not_true,decide_false]|refine WP_drw ?_|refine cnd_intro (fun hsp=>?_) fun hsp=>?_)
     refine WP_count [(22,22),(127,133)] 0 (seeL L s).ps.length (Nat.zero_le _) (fun _ i fr h'=>fr 127=.int .i64 (i:Int)∧HF.length≤h'.length∧Ext H9 h'∧h'[HE.length]?=some ⟨.cells [.int .i64 (seeL L s).R,.int .i64 (seeL L s).T,qv2,rv2] 25 false false,0⟩∧Own encP 81 H9.length h' qv2 vs∧Own encS 56 H9.length h' rv2 (seeL L s).ss∧∀ (j:Nat) x,vs[j]?=some x→∃ l,OwnE encI 3 H9.length h' x.v l) ?_ ?_ ?_
     ·refine ⟨by (simp (disch:=first|exact dq|fail) only [go_sem,↓reduceIte,Int.natCast_zero];first|done|rfl),Nat.le_refl _,y9F,gF,v1,oRF,fun j x hx=>?_⟩
      have hj:j<(seeL L s).ps.length:=by rw [← v2];exact (List.getElem?_eq_some_iff.1 hx).1
      exact ⟨_,(v3 j x _ hx (getD_some (d:=prt0) hj)).1⟩
     ·rintro i fr9 K hi0 hi hA9 ⟨u127,hlK,xK,gK,oPK,oSK,hcl⟩
      have u1:=hA9 1 rfl
      have u3:=hA9 3 rfl
      have u6:=hA9 6 rfl
      have u7:=hA9 7 rfl
      have u9:=hA9 9 rfl
      have u19:=hA9 19 rfl
      have u125:=hA9 125 rfl
      have u126:=hA9 126 rfl
      try simp (disch:=first|exact dq|fail) only [go_sem,↓reduceIte,kx1,kx3,kx6,kx7,kx9] at u1 u3 u6 u7 u9 u19 u125 u126
      have hlt:((i:Int)<((seeL L s).ps.length:Int))=True:=eq_true (by omega)
      have hiv:i<vs.length:=by omega
      obtain ⟨x,ex⟩:∃ x,x=vs[i]:=⟨_,rfl⟩
      have hx:vs[i]?=some x:=by rw [ex];exact List.getElem?_eq_getElem hiv
      have hR:=oPK.rows (show vs.length<2 ^ 60 by omega)
      have ad:=hR.addr (P:=prog) (i:=(i:Int)) Fc.el22 Fc.ar22 (by omega) (by omega)
      rw [Int.toNat_natCast] at ad
      obtain ⟨l,ol⟩:=hcl i x hx
      have ox:=ol.one
      have ld:loadP prog K 81 (elAdr qv2 encP.z i 0)=some (.agg [x.v,.int .i64 x.each,.int .i64 x.ph,.bool x.wv]):=by
       have:=hR.load (P:=prog) Fc.ty81 hx
       simp only [encP,norm_one ox] at this
       exact this
      have ld2:∀ {T:Heap},loadP prog (K++T) 81 (elAdr qv2 encP.z i 0)=some (.agg [x.v,.int .i64 x.each,.int .i64 x.ph,.bool x.wv]):=fun {T}=>by
       have:=(hR.app (T:=T)).load (P:=prog) Fc.ty81 hx
       simp only [encP,norm_one ox] at this
       exact this
      obtain ⟨K2,eK2⟩:∃ K2,K2=K++[prB x.v x.each x.ph x.wv]:=⟨_,rfl⟩
      have xK2:Ext K K2:=by rw [eK2];exact .app .refl
      have g2:K2[K.length]?=some (prB x.v x.each x.ph x.wv):=by rw [eK2];exact get_eq rfl
      obtain ⟨K3,e3',l3,x3',c3,kp⟩:=clear_own (base:=h.length) (y:=(0:Int)) (ol.ext xK2) Fc.el36 encI_sc hh9
      have hK9:=xK.len
      have hl2:=xK2.len
      unfold prB at eK2 g2
      have hsp:=@Nat.succ_ne_zero;repeat' (first|simp (disch:=first|exact dq|fail) only [go_sem,↓reduceIte,hsp,u1,u3,u6,u7,u9,u19,u125,u126,u127,kx1,kx3,kx5,kx6,kx7,kx8,kx9,kx10,kx18,kx11,hlt,ad,ld,ld2,← eK2,g2,e3']|refine WP_drw ?_|refine cnd_intro (fun hsp=>?_) fun hsp=>?_)
      refine ⟨agq,by omega,by omega,x3' _ (Nat.le_refl _) (xK.trans xK2),kp.box (xK2.get gK),kp.own (oPK.ext xK2) (by decide),kp.own (oSK.ext xK2) (by decide),fun j y hy=>?_⟩
      obtain ⟨l',ol'⟩:=hcl j y hy
      exact c3 _ _ (ol'.ext xK2)
     ·rintro fr9 K hA9 ⟨u127,hlK,xK,gK,oPK,oSK,hcl⟩
      have u1:=hA9 1 rfl
      have u3:=hA9 3 rfl
      have u6:=hA9 6 rfl
      have u7:=hA9 7 rfl
      have u9:=hA9 9 rfl
      have u19:=hA9 19 rfl
      have u125:=hA9 125 rfl
      have u126:=hA9 126 rfl
      try simp (disch:=first|exact dq|fail) only [go_sem,↓reduceIte,kx1,kx3,kx6,kx7,kx9] at u1 u3 u6 u7 u9 u19 u125 u126
      have hlt:(((seeL L s).ps.length:Int)<((seeL L s).ps.length:Int))=False:=eq_false (by omega)
      obtain ⟨K3,e3',l3,x3',c3,kp⟩:=clear_own (base:=h.length) (y:=sgt0) (.inl oSK) Fc.el23 encS_sc hh9
      have xK3:=x3' _ (Nat.le_refl _) xK
      have gO3:=xK3.get gO9
      have gL3:=xK3.get gL9
      have y53:=y59.trans xK3
      have sam2:=fun base=>run_same (base:=base) (LO y53) (LL y53) (by omega) (by omega)
      have eqB:=fun base=>run_eqB (base:=base) ((hM4.ext y5).ext y53) (hT.ext (x5.trans y53)) (by omega)
      have hhK:=(x5.trans y53).len
      have hsp:=@Nat.succ_ne_zero;repeat' (first|simp (disch:=first|exact dq|fail) only [go_sem,↓reduceIte,hsp,u1,u3,u6,u7,u9,u19,u125,u126,u127,kx1,kx3,kx5,kx6,kx7,kx8,kx9,kx10,kx18,kx11,hlt,gK,e3',gO3,gL3,sam2,eqB,run_awake]|refine WP_drw ?_|refine cnd_intro (fun hsp=>?_) fun hsp=>?_)
      exact fB rfl (x5.trans y53)
end Go.AM
