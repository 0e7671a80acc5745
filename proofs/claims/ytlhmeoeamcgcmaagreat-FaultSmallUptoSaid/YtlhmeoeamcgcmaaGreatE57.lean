/-
  FaultLooms, walked.
-/
import Derived.Test.YtlhmeoeamcgcmaaGreatE55
import Derived.Test.YtlhmeoeamcgcmaaGreatE67
set_option linter.unusedSimpArgs false
set_option linter.unusedVariables false
namespace Go.AM
open Go.Proofs.Tryz
attribute [-go_sem] put_ne put_same
attribute [local go_sem ↓] put_if
theorem splM_len {L:Lom} {b:Int × Int × Int}:(splM L b).1.length≤1000:=by
 by_cases hc:chkM L=0
 ·by_cases hk:brkM L b=0
  ·rw [← sptR_eq hc hk]
   have:=sptR_len (L:=L) (b:=b) L.R.toNat
   obtain ⟨k1,k2,_⟩:=chkM_ok hc
   have:L.R.toNat * L.T.toNat≤6 * 12:=Nat.mul_le_mul (by omega) (by omega)
   omega
  ·unfold splM;rw [if_neg (by simp [hc]),if_pos hk];simp
 ·unfold splM;rw [if_pos hc];simp
theorem excM_small' {L:Lom} {k:Int}:Small (excM L k).1:=by
 by_cases hc:chkM L=0
 ·by_cases hk:0≤k∧k≤(L.ps.length:Int)-1
  ·obtain ⟨n,rfl⟩:=Int.eq_ofNat_of_zero_le hk.1
   have hT:=(chkM_ok hc).2.1
   have e:=excR_eq (k:=n) hc (by omega)
   have hl:=excR_len (L:=L) (k:=n) (n:=L.T.toNat)
   rw [e] at hl
   refine ⟨by show (excM L (n:Int)).1.length<_;omega,fun x hx=>?_⟩
   have hx':x ∈ (excM L (n:Int)).1:=hx
   rw [← e] at hx'
   have:=upto_mem.1 (List.mem_filter.1 hx').1
   omega
  ·unfold excM;rw [if_neg (by simp [hc]),if_pos hk];exact ⟨by simp,by simp⟩
 ·unfold excM;rw [if_pos hc];exact ⟨by simp,by simp⟩
theorem stE57 {base:Nat} {l:List Oper} {s:St} {Q:AExit→St→Prop}:WP prog raw base (.region 10 l.toArray false) s Q=WPS prog raw base (.region 10 l.toArray false) s Q:=WP_stop
attribute [local go_sem ↓ 3000] stE57
set_option maxRecDepth 100000 in
set_option maxHeartbeats 8000000 in
theorem run_FaultLooms {base:Nat} {h:Heap} {v0 v1:AVal} (hL0:LomN 1048576 h v0) (hb1:BrkV h v1):callL prog raw base (.fn 58 [] []) [v0,v1] h=some (.bool true,h):=by
 obtain ⟨L,hL,_⟩:=hL0
 obtain ⟨b1,b2,b3,rfl⟩:=hb1
 obtain ⟨pv,sv,eL,hP,hS⟩:=id hL
 have rg:=rib_rng hP
 have o1:=hP.one
 have o2:=hS.one
 obtain ⟨b,eb⟩:∃ b:Int × Int × Int,b=(b1,b2,b3):=⟨_,rfl⟩
 obtain ⟨h2,eh2⟩:∃ h2,h2=h++[lmB L.R L.T pv sv]++[(⟨.cells [.int .i64 b1,.int .i64 b2,.int .i64 b3] 75 false false,0⟩:ABlk)]:=⟨_,rfl⟩
 have x2:Ext h h2:=by rw [eh2];exact .app (.app .refl)
 have hl2:h2.length=h.length+2:=by rw [eh2];simp
 have gr:=fun base=>run_great (base:=base) (hL.ext x2)
 have gL2:h2[h.length]?=some (lmB L.R L.T pv sv):=by rw [eh2];exact get_app (get_eq rfl)
 have gB2:h2[h.length+1]?=some ⟨.cells [.int .i64 b1,.int .i64 b2,.int .i64 b3] 75 false false,0⟩:=by rw [eh2];exact get_eq (by simp)
 subst eL
 unfold lmB at eh2 gL2
 refine callL_run func58 rfl rfl ?_
 rcases Bool.eq_false_or_eq_true (grtM L) with hg|hg
 ·rw [hg] at gr
  have hsp:=@Nat.succ_ne_zero;repeat' (first|simp (disch:=first|exact dq|fail) only [go_sem,↓reduceIte,hsp,← eh2,gL2,gr,run_awake]|refine WP_drw ?_|refine cnd_intro (fun hsp=>?_) fun hsp=>?_)
  exact fB rfl x2
 ·rw [hg] at gr
  obtain ⟨n1,n2,n3⟩:=grtM_no hg
  have sm:∀ p ∈ L.ps,Small p.rib:=fun p hp=>⟨by have:=n3 p hp;omega,rg p hp⟩
  have ok:=lomOk_small hg sm
  have n3':∀ p ∈ L.ps,p.rib.length≤1000:=fun p hp=>by have:=n3 p hp;omega
  obtain ⟨w1,H1,e1,y1,pw,sw,rfl,oP,oS⟩:=run_own (base:=h.length) (by omega) (hL.ext x2) (by omega) (by omega) n3'
  obtain ⟨w2,H2,e2,y2,px,sx,rfl,oPR,oSR⟩:=run_theirs (base:=h.length) (by have:=y1.len;omega) (hL.ext (x2.trans y1)) (by omega) (by omega) n3'
  have hP1:=((oP.parts (by omega) sm).ext y2)
  have hS1:=(((oS.rows (by omega):Rows encS H1 sw L.ss)).ext y2)
  have hP2:=oPR.parts (by omega) sm
  have hS2:=oSR.rows (by omega:L.ss.length<2 ^ 60)
  have q1:=hP1.one
  have q2:=hS1.one
  have q3:=hP2.one
  have q4:=hS2.one
  have gL1:=y1.get gL2
  have hh2:=((x2.trans y1).trans y2).len
  obtain ⟨H3,eH3⟩:∃ H3,H3=H2++[lmB L.R L.T pw sw]++[rlB L.R L.T px sx]:=⟨_,rfl⟩
  have y3:Ext H2 H3:=by rw [eH3];exact .app (.app .refl)
  have x3:=((x2.trans y1).trans y2).trans y3
  have hh3:=x3.len
  have hl3:H3.length=H2.length+2:=by rw [eH3];simp
  have y13:=(y1.trans y2).trans y3
  have gL3:=y13.get gL2
  have gB3:=y13.get gB2
  have gO3:H3[H2.length]?=some (lmB L.R L.T pw sw):=by rw [eH3];exact get_app (get_eq rfl)
  have gT3:H3[H2.length+1]?=some (rlB L.R L.T px sx):=by rw [eH3];exact get_eq (by simp)
  have LO:∀ {H:Heap},Ext H3 H→LomAt H (lomV L.R L.T pw sw) L:=fun x=>⟨pw,sw,rfl,hP1.ext (y3.trans x),hS1.ext (y3.trans x)⟩
  have LR:∀ {H:Heap},Ext H3 H→LomAt H (lomV L.R L.T px sx) L:=fun x=>⟨px,sx,rfl,hP2.ext (y3.trans x),hS2.ext (y3.trans x)⟩
  have c1:=fun base=>run_chkR (base:=base) (LR .refl) (by omega) (by omega) n3'
  have c2:=fun base=>run_check' (base:=base) (LO .refl) ok
  unfold lmB rlB at eH3
  unfold lmB at gO3
  unfold rlB at gT3
  have tq:(chkM L=chkM L)=True:=eq_self _
  have hsp:=@Nat.succ_ne_zero;repeat' (first|simp (disch:=first|exact dq|fail) only [go_sem,↓reduceIte,hsp,← eh2,gL2,gr,e1,gL1,e2,← eH3,c1,c2,gO3,gT3,neB,eq_self,not_true,decide_false,Bool.false_eq_true]|refine WP_drw ?_|refine cnd_intro (fun hsp=>?_) fun hsp=>?_)
  refine WPS_restF fun Z eZ=>?_
  rw [← WP_seq]
  have kZ2:=congrFun eZ 2
  have kZ3:=congrFun eZ 3
  have kZ5:=congrFun eZ 5
  have kZ6:=congrFun eZ 6
  have kZ7:=congrFun eZ 7
  have kZ8:=congrFun eZ 8
  have kZ9:=congrFun eZ 9
  have kZ10:=congrFun eZ 10
  have kZ11:=congrFun eZ 11
  try simp (disch:=first|exact dq|fail) only [go_sem,↓reduceIte] at kZ2 kZ3 kZ5 kZ6 kZ7 kZ8 kZ9 kZ10 kZ11
  clear eZ
  refine WP_meet (fun fr h'=>Agree [(8,11),(33,57)] fr Z∧Ext H3 h'∧fr 8=.int .i64 (splM L b).2∧fr 9=.int .i64 (excM L b.1).2∧∃ x10 x11,fr 10=x10∧fr 11=x11∧Own encT 183 0 h' x10 (splM L b).1∧Own encI 3 0 h' x11 (excM L b.1).1) ?_ ?_
  ·rw [WP_seq,WP_region]
   by_cases d1:chkM L=0
   ·have t1:(chkM L=0)=True:=eq_true d1
    obtain ⟨k1,k2,k3,k4,k5,k6⟩:=chkM_ok d1
    have kb:=fun base=>run_brokenR (base:=base) (b:=(b1,b2,b3)) (hP2.ext y3) q4 (by omega) (by omega)
    simp only [encB] at kb
    rw [← eb] at kb
    have lP:lenOpA prog H3 22 pv=some (.int .i64 (L.ps.length:Int)):=(hP.ext x3).len
    by_cases d2:0≤b1∧b1≤(L.ps.length:Int)-1
    ·obtain ⟨kk,ek⟩:=Int.eq_ofNat_of_zero_le d2.1
     have t20:(b1 ≥ 0)=True:=eq_true d2.1
     have t21:(b1<(L.ps.length:Int))=True:=eq_true (by omega)
     have hx2:(excM L b.1).2=0:=by rw [eb];exact (excM_mem d1 (k:=b1) ⟨by omega,by omega⟩).1
     rw [hx2]
     by_cases d3:brkM L b=0
     ·have hs2:(splM L b).2=0:=by unfold splM;rw [if_neg (by simp [d1]),if_neg (by simp [d3])]
      rw [hs2]
      rw [d3] at kb
      obtain ⟨w3,H4,e4,y4,o4⟩:=run_spotsR (base:=h.length) (b:=b) hh3 (hP2.ext y3) q4 d1 n3' d3
      have e4':=e4
      rw [eb] at e4'
      simp only [encB] at e4'
      obtain ⟨w4,H5,e5,y5,o5⟩:=run_excR (base:=h.length) (k:=kk) (Nat.le_trans hh3 y4.len) ((hP2.ext y3).ext y4) ((hS2.ext y3).ext y4) d1 n3' (by omega)
      rw [← ek] at e5
      have gB4:=y4.get gB3
      have gL4:=y4.get gL3
      have gT4:=y4.get gT3
      have lP4:lenOpA prog H4 22 pv=some (.int .i64 (L.ps.length:Int)):=(hP.ext (x3.trans y4)).len
      unfold rlB at gT4
      unfold lmB at gL4
      have j4:=o4.one
      have j5:=o5.one
      have hsp:=@Nat.succ_ne_zero;repeat' (first|simp (disch:=first|exact dq|fail) only [go_sem,↓reduceIte,hsp,kZ2,kZ3,kZ5,kZ6,kZ7,kZ8,kZ9,kZ10,kZ11,t1,t20,t21,gT3,gB3,gL3,kb,e4',gB4,gL4,gT4,lP4,e5,eq_self]|refine WP_drw ?_|refine cnd_intro (fun hsp=>?_) fun hsp=>?_)
      refine ⟨agq,y4.trans y5,w3,w4,rfl,rfl,?_,?_⟩
      ·rw [← sptR_eq d1 d3];exact (o4.ext y5).low (Nat.zero_le _)
      ·rw [show b.1=(kk:Int) by rw [eb];exact ek,← excR_eq d1 (by omega)];exact o5.low (Nat.zero_le _)
     ·have t3:(brkM L b=0)=False:=eq_false d3
      have hs2:splM L b=([],brkM L b):=by unfold splM;rw [if_neg (by simp [d1]),if_pos d3]
      rw [hs2]
      obtain ⟨w4,H5,e5,y5,o5⟩:=run_excR (base:=h.length) (k:=kk) hh3 (hP2.ext y3) (hS2.ext y3) d1 n3' (by omega)
      rw [← ek] at e5
      have j5:=o5.one
      have hsp:=@Nat.succ_ne_zero;repeat' (first|simp (disch:=first|exact dq|fail) only [go_sem,↓reduceIte,hsp,kZ2,kZ3,kZ5,kZ6,kZ7,kZ8,kZ9,kZ10,kZ11,t1,t3,t20,t21,gT3,gB3,gL3,kb,lP,e5,eq_self]|refine WP_drw ?_|refine cnd_intro (fun hsp=>?_) fun hsp=>?_)
      refine ⟨agq,y5,_,w4,rfl,rfl,Own.nil,?_⟩
      rw [show b.1=(kk:Int) by rw [eb];exact ek,← excR_eq d1 (by omega)];exact o5.low (Nat.zero_le _)
    ·have d3:brkM L b=1:=by unfold brkM;rw [eb,if_pos d2]
     have hs2:splM L b=([],1):=by unfold splM;rw [if_neg (by simp [d1]),if_pos (by omega),d3]
     have hx2:excM L b.1=([],1):=by unfold excM;rw [eb,if_neg (by simp [d1]),if_pos d2]
     rw [hs2,hx2]
     rw [d3] at kb
     by_cases d4:b1 ≥ 0
     ·have t20:(b1 ≥ 0)=True:=eq_true d4
      have t21:(b1<(L.ps.length:Int))=False:=eq_false (by omega)
      have hsp:=@Nat.succ_ne_zero;repeat' (first|simp (disch:=first|exact dq|fail) only [go_sem,↓reduceIte,hsp,kZ2,kZ3,kZ5,kZ6,kZ7,kZ8,kZ9,kZ10,kZ11,t1,t20,t21,gT3,gB3,gL3,kb,lP,eq_self]|refine WP_drw ?_|refine cnd_intro (fun hsp=>?_) fun hsp=>?_)
      exact ⟨agq,.refl,_,_,rfl,rfl,Own.nil,Own.nil⟩
     ·have t20:(b1 ≥ 0)=False:=eq_false d4
      have hsp:=@Nat.succ_ne_zero;repeat' (first|simp (disch:=first|exact dq|fail) only [go_sem,↓reduceIte,hsp,kZ2,kZ3,kZ5,kZ6,kZ7,kZ8,kZ9,kZ10,kZ11,t1,t20,gT3,gB3,gL3,kb,lP,eq_self]|refine WP_drw ?_|refine cnd_intro (fun hsp=>?_) fun hsp=>?_)
      exact ⟨agq,.refl,_,_,rfl,rfl,Own.nil,Own.nil⟩
   ·have t1:(chkM L=0)=False:=eq_false d1
    have hs2:splM L b=([],chkM L):=by unfold splM;rw [if_pos d1]
    have hx2:excM L b.1=([],chkM L):=by unfold excM;rw [if_pos d1]
    rw [hs2,hx2]
    have hsp:=@Nat.succ_ne_zero;repeat' (first|simp (disch:=first|exact dq|fail) only [go_sem,↓reduceIte,hsp,kZ2,kZ3,kZ5,kZ6,kZ7,kZ8,kZ9,kZ10,kZ11,t1]|refine WP_drw ?_|refine cnd_intro (fun hsp=>?_) fun hsp=>?_)
    exact ⟨agq,.refl,_,_,rfl,rfl,Own.nil,Own.nil⟩
  ·rintro fr4 H4 ⟨hA4,y4,r8,r9,x10,x11,r10,r11,o10,o11⟩
   have z2:=hA4 2 rfl
   have z3:=hA4 3 rfl
   have z5:=hA4 5 rfl
   have z6:=hA4 6 rfl
   have z7:=hA4 7 rfl
   try simp (disch:=first|exact dq|fail) only [go_sem,↓reduceIte,kZ2,kZ3,kZ5,kZ6,kZ7] at z2 z3 z5 z6 z7
   have x4:=x3.trans y4
   have hh4:=x4.len
   have gL4:=y4.get gL3
   have gB4:=y4.get gB3
   have gO4:=y4.get gO3
   have gT4:=y4.get gT3
   obtain ⟨_,H5,e5,y5,u5,rfl,o5⟩:=run_spoils (base:=h.length) (b:=b) hh4 (LO y4) ok.1 ok.2.1 ok.2.2.1 ok.2.2.2.1 ok.2.2.2.2
   obtain ⟨_,H6,e6,y6,u6,rfl,o6⟩:=run_excluded (base:=h.length) (k:=b.1) (Nat.le_trans hh4 y5.len) (LO (y4.trans y5)) ok
   rw [eb] at e5
   simp only [encB] at e5
   rw [← eb] at e5
   have eb1:b.1=b1:=by rw [eb]
   rw [eb1] at e6 o6 r9 o11
   have y46:=y5.trans y6
   have x6:=x4.trans y46
   have hh6:=x6.len
   have gB5:=y5.get gB4
   have gO5:=y5.get gO4
   have gL6:=y46.get gL4
   have gO6:=y46.get gO4
   have j10:=o10.one
   have j11:=o11.one
   have j5:=o5.one
   have j6:=o6.one
   have sl:=splM_len (L:=L) (b:=b)
   have o56:=o5.ext y6
   have o106:=o10.ext y46
   have l5:lenOpA prog H6 96 u5=some (.int .i64 ((splM L b).1.length:Int)):=own_len o56 Fc.el96 (by omega)
   have l10:lenOpA prog H6 180 x10=some (.int .i64 ((splM L b).1.length:Int)):=own_len o106 Fc.el180 (by omega)
   have i6:=own_ints o6 excM_small'
   have i11:=own_ints (o11.ext y46) excM_small'
   have eqI:=fun base=>run_eqI (base:=base) i6 i11
   have hsp:=@Nat.succ_ne_zero;repeat' (first|simp (disch:=first|exact dq|fail) only [go_sem,↓reduceIte,hsp,r8,r9,r10,r11,z2,z3,z5,z6,z7,kZ2,kZ3,kZ5,kZ6,kZ7,kZ8,kZ9,kZ10,kZ11,gO4,gB4,e5,gO5,gB5,e6,l5,l10,eqI,neB,eq_self,not_true,decide_false,decide_true,Bool.false_eq_true,Bool.not_true]|refine WP_drw ?_|refine cnd_intro (fun hsp=>?_) fun hsp=>?_)
   have R5:=o56.rows (show (splM L b).1.length<2 ^ 60 by omega)
   have R10:=o106.rows (show (splM L b).1.length<2 ^ 60 by omega)
   refine WP_count [(4,4),(16,17),(94,105)] 0 (splM L b).1.length (Nat.zero_le _) (fun _ n fr h'=>fr 94=.int .i64 (n:Int)∧Ext H6 h') ?_ ?_ ?_
   ·exact ⟨by (simp (disch:=first|exact dq|fail) only [go_sem,↓reduceIte,Int.natCast_zero];first|done|rfl),.refl⟩
   ·rintro n fr5 K hn0 hn hA5 ⟨r94,xK⟩
    have p2:=hA5 2 rfl
    have p5:=hA5 5 rfl
    have p10:=hA5 10 rfl
    have p92:=hA5 92 rfl
    have p93:=hA5 93 rfl
    try simp (disch:=first|exact dq|fail) only [go_sem,↓reduceIte,z2,z5] at p2 p5 p10 p92 p93
    have p10:=hA5 10 rfl
    simp (disch:=first|exact dq|fail) only [go_sem,↓reduceIte,r10,z2,z3,z5,z6,z7,kZ2,kZ3,kZ5,kZ6,kZ7,kZ8,kZ9,kZ10,kZ11] at p10
    have hlt:((n:Int)<((splM L b).1.length:Int))=True:=eq_true (by omega)
    have hhK:=(x6.trans xK).len
    obtain ⟨x,ex⟩:∃ x,x=(splM L b).1.getD n (0,0):=⟨_,rfl⟩
    have hx:(splM L b).1[n]?=some x:=by rw [ex];exact getD_some hn
    have a5:=(R5.ext xK).addr (P:=prog) (i:=(n:Int)) Fc.el96 Fc.ar96 (by omega) (by omega)
    have a10:=(R10.ext xK).addr (P:=prog) (i:=(n:Int)) Fc.el180 Fc.ar180 (by omega) (by omega)
    rw [Int.toNat_natCast] at a5 a10
    have d5:loadP prog K 101 (elAdr u5 encT.z n 0)=some (.agg [.int .i64 x.1,.int .i64 x.2]):=(R5.ext xK).load (P:=prog) Fc.ty101 hx
    have d5':∀ {T:Heap},loadP prog (K++T) 101 (elAdr u5 encT.z n 0)=some (.agg [.int .i64 x.1,.int .i64 x.2]):=fun {T}=>(R5.ext (xK.trans (.app .refl))).load (P:=prog) Fc.ty101 hx
    have d10:∀ {T:Heap},loadP prog (K++T) 183 (elAdr x10 encT.z n 0)=some (.agg [.int .i64 x.1,.int .i64 x.2]):=fun {T}=>(R10.ext (xK.trans (.app .refl))).load (P:=prog) Fc.ty183 hx
    have hsp:=@Nat.succ_ne_zero;repeat' (first|simp (disch:=first|exact dq|fail) only [go_sem,↓reduceIte,hsp,r94,p10,p2,p5,p10,p92,p93,z2,z3,z5,z6,z7,kZ2,kZ3,kZ5,kZ6,kZ7,kZ8,kZ9,kZ10,kZ11,hlt,a5,a10,d5,d5',d10,eq_self,and_self,not_true,decide_false,Bool.false_eq_true]|refine WP_drw ?_|refine cnd_intro (fun hsp=>?_) fun hsp=>?_)
    exact ⟨agq,by omega,xK.trans (.app .refl)⟩
   ·rintro fr5 K hA5 ⟨r94,xK⟩
    have p2:=hA5 2 rfl
    have p5:=hA5 5 rfl
    have p10:=hA5 10 rfl
    have p92:=hA5 92 rfl
    have p93:=hA5 93 rfl
    try simp (disch:=first|exact dq|fail) only [go_sem,↓reduceIte,z2,z5] at p2 p5 p10 p92 p93
    have hlt:(((splM L b).1.length:Int)<((splM L b).1.length:Int))=False:=eq_false (by omega)
    have gLK:=xK.get gL6
    have gOK:=xK.get gO6
    have xx:=x6.trans xK
    have sam:=fun base=>run_same (base:=base) (LO ((y4.trans y46).trans xK)) (hL.ext xx) (by omega) (by omega)
    have hhK:=xx.len
    have hsp:=@Nat.succ_ne_zero;repeat' (first|simp (disch:=first|exact dq|fail) only [go_sem,↓reduceIte,hsp,r94,p2,p5,p10,p92,p93,z2,z3,z5,z6,z7,kZ2,kZ3,kZ5,kZ6,kZ7,kZ8,kZ9,kZ10,kZ11,hlt,gLK,gOK,sam,run_awake]|refine WP_drw ?_|refine cnd_intro (fun hsp=>?_) fun hsp=>?_)
    exact fB rfl xx
end Go.AM
