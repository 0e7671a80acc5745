/-
  LaceRings, walked.
-/
import Derived.Test.YteanoaejoddnbaaGreatU23
set_option linter.unusedSimpArgs false
set_option linter.unusedVariables false
namespace Go.AM
open Go.Proofs.Tryz
attribute [-go_sem] put_ne put_same
attribute [local go_sem ↓] put_if
theorem trdE_small {L:Lac} {o ring:List Int}:Small (trdE L o ring).1:=by
 have e:Small ([]:List Int):=⟨by simp,by simp⟩
 unfold trdE
 split
 ·exact e
 ·rename_i h0
  split
  ·exact e
  ·rename_i h1
   split
   ·exact e
   ·rename_i h2
    split
    ·exact e
    ·rename_i h3
     split
     ·have hc:chkL L=0:=Classical.byContradiction fun q=>h0 (by unfold lcdE;rw [if_neg q];exact q)
      have ho:Ord L.C.length o:=ordL_iff.1 (Classical.byContradiction fun q=>h0 (by unfold lcdE;rw [if_pos hc];exact q))
      have hn:=(chkL_iff.1 hc).n
      have hin:∀ x ∈ ring,0≤x∧x<(L.C.length:Int):=fun x hx=>by
       have:=of_decide_eq_true (List.all_eq_true.1 (Classical.not_not.1 h2) x hx);omega
      have hnd:ring.Nodup:=Classical.not_not.1 fun q=>h3 (decide_eq_true q)
      exact ord_small (trnL_any ho hin hnd) (by omega)
     ·exact e
theorem ring_few {L:Lac} {l:List Int} (hc:chkL L=0) (h:IsRing L l):l.length≤1000:=by
 obtain ⟨o1,o2,a,r,f1,f2,ha,had,hr0,hrb,hrm,rfl⟩:=h
 have h1:=fnd_ord (List.mem_of_getElem? f1)
 have h2:=fnd_ord (List.mem_of_getElem? f2)
 have hn:=(chkL_iff.1 hc).n
 have hr7:=itr_few h1 h2 ha hrm
 rw [rngL_len];omega
set_option maxRecDepth 100000 in
set_option maxHeartbeats 16000000 in
theorem run_LaceRings {base:Nat} {h:Heap} {v0 v1 v2:AVal} (hL0:LacN 1048576 h v0) (hO0:IntsN 1048576 h v1) (hG0:IntsN 1048576 h v2) :
  callL prog raw base (.fn 18 [] []) [v0,v1,v2] h=some (.bool true,h):=by
 obtain ⟨L,hL,-,-⟩:=hL0
 obtain ⟨o,hO,-⟩:=hO0
 obtain ⟨ring,hG,-⟩:=hG0
 have hLL:=hL
 obtain ⟨cv,rv,rfl,hC,hR⟩:=hLL
 have o1:=hC.one
 have o2:=hR.one
 have o3:=hO.one
 have o4:=hG.one
 obtain ⟨G0,eG0⟩:∃ G0,G0=h++[lacB L.T cv rv]:=⟨_,rfl⟩
 have x0:Ext h G0:=by rw [eG0];exact .app .refl
 have g0:G0[h.length]?=some (lacB L.T cv rv):=by rw [eG0];exact get_eq rfl
 have lG0:G0.length=h.length+1:=by rw [eG0];simp
 have hg:=fun base=>run_great (base:=base) (hL.ext x0)
 have hlo:=lenI (hO.ext x0)
 have hlr:=lenI (hG.ext x0)
 have haw:=fun base=>run_awake (base:=base) (h:=G0)
 unfold lacB at eG0
 have g0':=g0
 unfold lacB at g0'
 refine callL_run func18 rfl rfl ?_
 by_cases cg:12<L.C.length ∨ 16<L.R.length
 ·rw [decide_eq_true cg] at hg
  have hsp:=@Nat.succ_ne_zero;repeat' (first|simp (disch:=first|exact dq|fail) only [go_sem,↓reduceIte,hsp,← eG0,g0',hg,haw]|refine WP_drw ?_|refine cnd_intro (fun hsp=>?_) fun hsp=>?_)
  exact fB rfl x0
 rw [decide_eq_false cg] at hg
 by_cases cl:12<o.length
 ·have t1:((o.length:Int) > 12)=True:=eq_true (by omega)
  have hsp:=@Nat.succ_ne_zero;repeat' (first|simp (disch:=first|exact dq|fail) only [go_sem,↓reduceIte,hsp,← eG0,g0',hg,hlo,t1,haw]|refine WP_drw ?_|refine cnd_intro (fun hsp=>?_) fun hsp=>?_)
  exact fB rfl x0
 have t1:((o.length:Int) > 12)=False:=eq_false (by omega)
 by_cases cm:12<ring.length
 ·have t2:((ring.length:Int) > 12)=True:=eq_true (by omega)
  have hsp:=@Nat.succ_ne_zero;repeat' (first|simp (disch:=first|exact dq|fail) only [go_sem,↓reduceIte,hsp,← eG0,g0',hg,hlo,t1,hlr,t2,haw]|refine WP_drw ?_|refine cnd_intro (fun hsp=>?_) fun hsp=>?_)
  exact fB rfl x0
 have t2:((ring.length:Int) > 12)=False:=eq_false (by omega)
 obtain ⟨_,G1,e1,x1,cw,rw1,rfl,oC,oR⟩:=run_own (base:=h.length) (h:=G0) (by omega) (hL.ext x0) (by omega) (by omega)
 have l1:=x1.len
 obtain ⟨_,G2,e2,x2,aT,cv2,rw2,rfl,-,oT⟩:=run_theirs (base:=h.length) (h:=G1) (by omega) (hL.ext (x0.trans x1)) (by omega)
 have l2:=x2.len
 obtain ⟨mw,F3,e3,y3,oM⟩:=run_dupI (base:=h.length) (h:=G2) (by omega) (hO.ext ((x0.trans x1).trans x2)) (by omega)
 have m3:=y3.len
 obtain ⟨nw,G3,e4,y4,oN⟩:=run_dupI (base:=h.length) (h:=F3) (by omega) (hG.ext (((x0.trans x1).trans x2).trans y3)) (by omega)
 have x3:=y3.trans y4
 have l3:=x3.len
 have ocw:=oC.one
 have orw:=oR.one
 have omw:=oM.one
 have onw:=oN.one
 have ot2:=oT.one
 have oc2:One cv2:=by
  obtain ⟨_,_,q,q2,_⟩:=aT
  simp only [AVal.agg.injEq,List.cons.injEq,and_true] at q
  rw [q.2.1];exact q2.one
 obtain ⟨G4,eG4⟩:∃ G4,G4=G3++[lacB L.T cw rw1]++[rcB L.T cv2 rw2]:=⟨_,rfl⟩
 have x4:Ext G3 G4:=by rw [eG4];exact .app (.app .refl)
 have l4:G4.length=G3.length+2:=by rw [eG4];simp
 have gO4:G4[G3.length]?=some (lacB L.T cw rw1):=by rw [eG4];exact get_app (get_eq rfl)
 have gT4:G4[G3.length+1]?=some (rcB L.T cv2 rw2):=by rw [eG4];exact get_eq (by simp)
 have x14:=(x2.trans x3).trans x4
 have xh4:Ext h G4:=(x0.trans x1).trans x14
 have hsC:Small L.C:=⟨by omega,hC.1.2⟩
 have hso:Small o:=⟨by omega,hO.1.2⟩
 have hsr:Small ring:=⟨by omega,hG.1.2⟩
 have aO4:LacAt G4 (.agg [.int .i64 L.T,cw,rw1]) L:=⟨cw,rw1,rfl,(ownE_ints oC hsC).ext x14,(oR.rows (by omega)).ext x14⟩
 have aT4:LacAt G4 (.agg [.int .i64 L.T,cv2,rw2]) L:=aT.ext (x3.trans x4)
 have iM4:Ints G4 mw o:=(ownE_ints oM hso).ext (y4.trans x4)
 have iN4:Ints G4 nw ring:=(ownE_ints oN hsr).ext x4
 have gc4:G4[h.length]?=some (lacB L.T cv rv):=(x1.trans x14).get g0
 have hck:=fun base=>run_rcheck (base:=base) aT4 (by omega) (by omega)
 have g01:=x1.get g0'
 unfold lacB rcB at eG4
 unfold rcB at gT4
 have hlc:=fun {K} (e:Ext G4 K)=>lenI (hC.ext (xh4.trans e))
 by_cases c:chkL L=0
 ·have hok:=chkL_iff.1 c
  have hn:=hok.n
  rw [c] at hck
  obtain ⟨lw,G5,e5,x5,aA⟩:=run_All (base:=h.length) (h:=G4) (by omega) aT4 hok
  have l5:=x5.len
  have olw:=aA.one
  have hfew:=fnd_few (L:=L) hn.2
  have hln:=aA.all.len (by omega)
  have gT5:=x5.get gT4
  have gc5:=x5.get gc4
  unfold lacB at gc5
  have hlc5:=hlc x5
  have hrd:=fun base=>run_rordered (base:=base) (h:=G5) (n:=L.C.length) (hO.ext (xh4.trans x5)) (by omega)
  by_cases cf:fnd L=[]
  ·obtain ⟨-,-,-,rv,-⟩:=found_none c cf
   rw [cf] at hln
   have z0:((([]:List (List Int)).length:Nat):Int)=0:=rfl
   by_cases co:ordL o L.C.length=0
   ·have hoo:=ordL_iff.1 co
    rw [co] at hrd
    obtain ⟨_,Z,e6,x6,tw0,rfl,oT0⟩:=run_rturned (base:=h.length) (h:=G5) (by omega) (aT4.ext x5) hok (hO.ext (xh4.trans x5)) hoo (hG.ext (xh4.trans x5)) (by omega)
    have ot0:=oT0.one
    have xZ:=x5.trans x6
    obtain ⟨lt,et,tv⟩:∃ lt et,trdE L o ring=(lt,et):=⟨_,_,rfl⟩
    rw [tv] at e6 oT0
    have hT:Ints Z tw0 lt:=own_ints oT0 (by have:=@trdE_small L o ring;rw [tv] at this;exact this)
    have lZ:=xZ.len
    have aO:=aO4.ext xZ
    have iM:=iM4.ext xZ
    have iN:=iN4.ext xZ
    have gO:=xZ.get gO4
    have gT:=xZ.get gT4
    have gc:=xZ.get gc4
    obtain ⟨_,Z1,c2,z1,gw,lg,rfl,oG,rP1,rP2⟩:=run_Ring (base:=h.length) (h:=Z) (by omega) aO
    have ogw:=oG.one
    rw [rv] at c2 rP1 rP2
    have lz1:=z1.len
    obtain ⟨_,Z2,c3,z2,tw,rfl,oU⟩:=run_Turned (base:=h.length) (h:=Z1) (by omega) (aO.ext z1) (iM.ext z1) (iN.ext z1)
    have otw:=oU.one
    rw [tv] at c3 oU
    have gO1:=z1.get gO
    have gO2:=z2.get gO1
    have z12:=z1.trans z2
    have gT2:=z12.get gT
    have gc2:=z12.get gc
    have slt:Small lt:=by have:=@trdE_small L o ring;rw [tv] at this;exact this
    have iT:Ints Z2 tw lt:=own_ints oU slt
    have xh:=xh4.trans (xZ.trans z12)
    have q1:=fun base=>run_eqI (base:=base) iT (hT.ext z12)
    have q3:=fun base=>run_same (base:=base) (aO.ext z12) (hL.ext xh) (by omega)
    have q4:=fun base=>run_eqI (base:=base) (iM.ext z12) (hO.ext xh)
    have q6:=fun base=>run_eqI (base:=base) (iN.ext z12) (hG.ext xh)
    rw [decide_eq_true rfl] at q1 q4 q6
    have q5:=fun base=>run_awake (base:=base) (h:=Z2)
    unfold lacB at gO gO1 gO2 gc2
    have hlgz:=rP1 (by omega)
    rw [hlgz] at oG
    have hlg:=own_len (oG.ext z2) Fc.el22 (by simp)
    have z00:((([]:List Int).length:Nat):Int)=0:=rfl
    have hsp:=@Nat.succ_ne_zero;repeat' (first|simp (disch:=first|exact dq|fail) only [go_sem,↓reduceIte,hsp,← eG0,g0',hg,hlo,hlr,t1,t2,e1,g01,e2,e3,e4,← eG4,gT4,hck,eq_self,e5,hln,z0,gT5,gc5,hlc5,hrd,e6,gO,c2,gO1,c3,q1,q3,q4,q5,q6,gO2,gc2,eqB,decide_true,hlg,z00]|refine WP_drw ?_|refine cnd_intro (fun hsp=>?_) fun hsp=>?_)
    exact fB rfl xh
   ·have tu:(ordL o L.C.length=0)=False:=eq_false co
    obtain ⟨Z,eZ⟩:∃ Z,Z=G5:=⟨_,rfl⟩
    have xZ:Ext G4 Z:=by rw [eZ];exact x5
    rw [← eZ] at e5 hln gT5 gc5 hlc5 hrd
    obtain ⟨lt,elt⟩:∃ lt:List Int,lt=[]:=⟨_,rfl⟩
    have hT:Ints Z (.slice none 0 0) lt:=by rw [elt];exact ints_nil
    have tv:trdE L o ring=(lt,ordL o L.C.length):=by
     have:lcdE L o=ordL o L.C.length:=by unfold lcdE;rw [if_pos c]
     unfold trdE;rw [this,if_pos co,elt]
    have lZ:=xZ.len
    have aO:=aO4.ext xZ
    have iM:=iM4.ext xZ
    have iN:=iN4.ext xZ
    have gO:=xZ.get gO4
    have gT:=xZ.get gT4
    have gc:=xZ.get gc4
    obtain ⟨_,Z1,c2,z1,gw,lg,rfl,oG,rP1,rP2⟩:=run_Ring (base:=h.length) (h:=Z) (by omega) aO
    have ogw:=oG.one
    rw [rv] at c2 rP1 rP2
    have lz1:=z1.len
    obtain ⟨_,Z2,c3,z2,tw,rfl,oU⟩:=run_Turned (base:=h.length) (h:=Z1) (by omega) (aO.ext z1) (iM.ext z1) (iN.ext z1)
    have otw:=oU.one
    rw [tv] at c3 oU
    have gO1:=z1.get gO
    have gO2:=z2.get gO1
    have z12:=z1.trans z2
    have gT2:=z12.get gT
    have gc2:=z12.get gc
    have slt:Small lt:=by have:=@trdE_small L o ring;rw [tv] at this;exact this
    have iT:Ints Z2 tw lt:=own_ints oU slt
    have xh:=xh4.trans (xZ.trans z12)
    have q1:=fun base=>run_eqI (base:=base) iT (hT.ext z12)
    have q3:=fun base=>run_same (base:=base) (aO.ext z12) (hL.ext xh) (by omega)
    have q4:=fun base=>run_eqI (base:=base) (iM.ext z12) (hO.ext xh)
    have q6:=fun base=>run_eqI (base:=base) (iN.ext z12) (hG.ext xh)
    rw [decide_eq_true rfl] at q1 q4 q6
    have q5:=fun base=>run_awake (base:=base) (h:=Z2)
    unfold lacB at gO gO1 gO2 gc2
    have hlgz:=rP1 (by omega)
    rw [hlgz] at oG
    have hlg:=own_len (oG.ext z2) Fc.el22 (by simp)
    have z00:((([]:List Int).length:Nat):Int)=0:=rfl
    have hsp:=@Nat.succ_ne_zero;repeat' (first|simp (disch:=first|exact dq|fail) only [go_sem,↓reduceIte,hsp,← eG0,g0',hg,hlo,hlr,t1,t2,e1,g01,e2,e3,e4,← eG4,gT4,hck,eq_self,e5,hln,z0,gT5,gc5,hlc5,hrd,tu,gO,c2,gO1,c3,q1,q3,q4,q5,q6,gO2,gc2,eqB,decide_true,hlg,z00]|refine WP_drw ?_|refine cnd_intro (fun hsp=>?_) fun hsp=>?_)
    exact fB rfl xh
  ·obtain ⟨-,rv⟩:=found_some c cf
   have hpos:=List.length_pos_iff.2 cf
   have u0:(((fnd L).length:Int)=0)=False:=eq_false (by omega)
   by_cases cn:(fnd L).length=1
   ·rw [if_pos cn] at rv
    have u1:((fnd L).length:Int)=1:=by omega
    have u2:((1:Int)=0)=False:=eq_false (by omega)
    by_cases co:ordL o L.C.length=0
    ·have hoo:=ordL_iff.1 co
     rw [co] at hrd
     obtain ⟨_,Z,e6,x6,tw0,rfl,oT0⟩:=run_rturned (base:=h.length) (h:=G5) (by omega) (aT4.ext x5) hok (hO.ext (xh4.trans x5)) hoo (hG.ext (xh4.trans x5)) (by omega)
     have ot0:=oT0.one
     have xZ:=x5.trans x6
     obtain ⟨lt,et,tv⟩:∃ lt et,trdE L o ring=(lt,et):=⟨_,_,rfl⟩
     rw [tv] at e6 oT0
     have hT:Ints Z tw0 lt:=own_ints oT0 (by have:=@trdE_small L o ring;rw [tv] at this;exact this)
     have lZ:=xZ.len
     have aO:=aO4.ext xZ
     have iM:=iM4.ext xZ
     have iN:=iN4.ext xZ
     have gO:=xZ.get gO4
     have gT:=xZ.get gT4
     have gc:=xZ.get gc4
     obtain ⟨_,Z1,c2,z1,gw,lg,rfl,oG,rP1,rP2⟩:=run_Ring (base:=h.length) (h:=Z) (by omega) aO
     have ogw:=oG.one
     rw [rv] at c2 rP1 rP2
     have lz1:=z1.len
     obtain ⟨_,Z2,c3,z2,tw,rfl,oU⟩:=run_Turned (base:=h.length) (h:=Z1) (by omega) (aO.ext z1) (iM.ext z1) (iN.ext z1)
     have otw:=oU.one
     rw [tv] at c3 oU
     have gO1:=z1.get gO
     have gO2:=z2.get gO1
     have z12:=z1.trans z2
     have gT2:=z12.get gT
     have gc2:=z12.get gc
     have slt:Small lt:=by have:=@trdE_small L o ring;rw [tv] at this;exact this
     have iT:Ints Z2 tw lt:=own_ints oU slt
     have xh:=xh4.trans (xZ.trans z12)
     have q1:=fun base=>run_eqI (base:=base) iT (hT.ext z12)
     have q3:=fun base=>run_same (base:=base) (aO.ext z12) (hL.ext xh) (by omega)
     have q4:=fun base=>run_eqI (base:=base) (iM.ext z12) (hO.ext xh)
     have q6:=fun base=>run_eqI (base:=base) (iN.ext z12) (hG.ext xh)
     rw [decide_eq_true rfl] at q1 q4 q6
     have q5:=fun base=>run_awake (base:=base) (h:=Z2)
     unfold lacB at gO gO1 gO2 gc2
     have hlgz:=rP1 (by omega)
     rw [hlgz] at oG
     have hlg:=own_len (oG.ext z2) Fc.el22 (by simp)
     have z00:((([]:List Int).length:Nat):Int)=0:=rfl
     have hsp:=@Nat.succ_ne_zero;repeat' (first|simp (disch:=first|exact dq|fail) only [go_sem,↓reduceIte,hsp,← eG0,g0',hg,hlo,hlr,t1,t2,e1,g01,e2,e3,e4,← eG4,gT4,hck,eq_self,e5,hln,u1,u2,gT5,gc5,hlc5,hrd,e6,gO,c2,gO1,c3,q1,q3,q4,q5,q6,gO2,gc2,eqB,decide_true,hlg,z00]|refine WP_drw ?_|refine cnd_intro (fun hsp=>?_) fun hsp=>?_)
     exact fB rfl xh
    ·have tu:(ordL o L.C.length=0)=False:=eq_false co
     obtain ⟨Z,eZ⟩:∃ Z,Z=G5:=⟨_,rfl⟩
     have xZ:Ext G4 Z:=by rw [eZ];exact x5
     rw [← eZ] at e5 hln gT5 gc5 hlc5 hrd
     obtain ⟨lt,elt⟩:∃ lt:List Int,lt=[]:=⟨_,rfl⟩
     have hT:Ints Z (.slice none 0 0) lt:=by rw [elt];exact ints_nil
     have tv:trdE L o ring=(lt,ordL o L.C.length):=by
      have:lcdE L o=ordL o L.C.length:=by unfold lcdE;rw [if_pos c]
      unfold trdE;rw [this,if_pos co,elt]
     have lZ:=xZ.len
     have aO:=aO4.ext xZ
     have iM:=iM4.ext xZ
     have iN:=iN4.ext xZ
     have gO:=xZ.get gO4
     have gT:=xZ.get gT4
     have gc:=xZ.get gc4
     obtain ⟨_,Z1,c2,z1,gw,lg,rfl,oG,rP1,rP2⟩:=run_Ring (base:=h.length) (h:=Z) (by omega) aO
     have ogw:=oG.one
     rw [rv] at c2 rP1 rP2
     have lz1:=z1.len
     obtain ⟨_,Z2,c3,z2,tw,rfl,oU⟩:=run_Turned (base:=h.length) (h:=Z1) (by omega) (aO.ext z1) (iM.ext z1) (iN.ext z1)
     have otw:=oU.one
     rw [tv] at c3 oU
     have gO1:=z1.get gO
     have gO2:=z2.get gO1
     have z12:=z1.trans z2
     have gT2:=z12.get gT
     have gc2:=z12.get gc
     have slt:Small lt:=by have:=@trdE_small L o ring;rw [tv] at this;exact this
     have iT:Ints Z2 tw lt:=own_ints oU slt
     have xh:=xh4.trans (xZ.trans z12)
     have q1:=fun base=>run_eqI (base:=base) iT (hT.ext z12)
     have q3:=fun base=>run_same (base:=base) (aO.ext z12) (hL.ext xh) (by omega)
     have q4:=fun base=>run_eqI (base:=base) (iM.ext z12) (hO.ext xh)
     have q6:=fun base=>run_eqI (base:=base) (iN.ext z12) (hG.ext xh)
     rw [decide_eq_true rfl] at q1 q4 q6
     have q5:=fun base=>run_awake (base:=base) (h:=Z2)
     unfold lacB at gO gO1 gO2 gc2
     have hlgz:=rP1 (by omega)
     rw [hlgz] at oG
     have hlg:=own_len (oG.ext z2) Fc.el22 (by simp)
     have z00:((([]:List Int).length:Nat):Int)=0:=rfl
     have hsp:=@Nat.succ_ne_zero;repeat' (first|simp (disch:=first|exact dq|fail) only [go_sem,↓reduceIte,hsp,← eG0,g0',hg,hlo,hlr,t1,t2,e1,g01,e2,e3,e4,← eG4,gT4,hck,eq_self,e5,hln,u1,u2,gT5,gc5,hlc5,hrd,tu,gO,c2,gO1,c3,q1,q3,q4,q5,q6,gO2,gc2,eqB,decide_true,hlg,z00]|refine WP_drw ?_|refine cnd_intro (fun hsp=>?_) fun hsp=>?_)
     exact fB rfl xh
   ·rw [if_neg cn] at rv
    have u1:(((fnd L).length:Int)=1)=False:=eq_false (by omega)
    obtain ⟨a0,fs,ad0,ld0,ow0⟩:=aA.at (A:=G5) (by omega) (head_at cf)
    rw [Int.natCast_zero] at ad0
    have ofs:=ow0.one
    have d0:=ld0 G5 .refl
    have hfo:(fnd L).headD [] ∈ fnd L:=by
     cases q:fnd L with
     | nil=>exact absurd q cf
     | cons a l=>simp
    have hf5:Ints G5 fs ((fnd L).headD []):=ownE_ints ow0 (ord_small (fnd_ord hfo) (by omega))
    by_cases co:ordL o L.C.length=0
    ·have hoo:=ordL_iff.1 co
     rw [co] at hrd
     obtain ⟨_,Z,e6,x6,tw0,rfl,oT0⟩:=run_rturned (base:=h.length) (h:=G5) (by omega) (aT4.ext x5) hok (hO.ext (xh4.trans x5)) hoo (hG.ext (xh4.trans x5)) (by omega)
     have ot0:=oT0.one
     have xZ:=x5.trans x6
     obtain ⟨lt,et,tv⟩:∃ lt et,trdE L o ring=(lt,et):=⟨_,_,rfl⟩
     rw [tv] at e6 oT0
     have hT:Ints Z tw0 lt:=own_ints oT0 (by have:=@trdE_small L o ring;rw [tv] at this;exact this)
     have hf:=hf5.ext x6
     have lZ:=xZ.len
     have aO:=aO4.ext xZ
     have iM:=iM4.ext xZ
     have iN:=iN4.ext xZ
     have gO:=xZ.get gO4
     have gT:=xZ.get gT4
     have gc:=xZ.get gc4
     obtain ⟨_,Z1,c2,z1,gw,lg,rfl,oG,rP1,rP2⟩:=run_Ring (base:=h.length) (h:=Z) (by omega) aO
     have ogw:=oG.one
     rw [rv] at c2 rP1 rP2
     have lz1:=z1.len
     obtain ⟨_,Z2,c3,z2,tw,rfl,oU⟩:=run_Turned (base:=h.length) (h:=Z1) (by omega) (aO.ext z1) (iM.ext z1) (iN.ext z1)
     have otw:=oU.one
     rw [tv] at c3 oU
     have gO1:=z1.get gO
     have gO2:=z2.get gO1
     have z12:=z1.trans z2
     have gT2:=z12.get gT
     have gc2:=z12.get gc
     have slt:Small lt:=by have:=@trdE_small L o ring;rw [tv] at this;exact this
     have iT:Ints Z2 tw lt:=own_ints oU slt
     have xh:=xh4.trans (xZ.trans z12)
     have q1:=fun base=>run_eqI (base:=base) iT (hT.ext z12)
     have q3:=fun base=>run_same (base:=base) (aO.ext z12) (hL.ext xh) (by omega)
     have q4:=fun base=>run_eqI (base:=base) (iM.ext z12) (hO.ext xh)
     have q6:=fun base=>run_eqI (base:=base) (iN.ext z12) (hG.ext xh)
     rw [decide_eq_true rfl] at q1 q4 q6
     have q5:=fun base=>run_awake (base:=base) (h:=Z2)
     unfold lacB at gO gO1 gO2 gc2
     obtain ⟨i1,i2,i3,i4⟩:=ring_is c (rP2 rfl)
     have hxo:(fnd L).headD [] ∈ fnd L:=by
      cases q:fnd L with
      | nil=>exact absurd q cf
      | cons a l=>simp
     have lz2:=z2.len
     obtain ⟨_,Z3,c5,z3,uw,rfl,oV⟩:=run_rturned (base:=h.length) (h:=Z2) (by omega) (aT4.ext (xZ.trans z12)) hok (hf.ext z12) (fnd_ord hxo) (own_ints (oG.ext z2) i4) (ring_few c (rP2 rfl))
     have ouw:=oV.one
     rw [i1] at c5
     have q7:=fun base=>run_awake (base:=base) (h:=Z3)
     have hsp:=@Nat.succ_ne_zero;repeat' (first|simp (disch:=first|exact dq|fail) only [go_sem,↓reduceIte,hsp,← eG0,g0',hg,hlo,hlr,t1,t2,e1,g01,e2,e3,e4,← eG4,gT4,hck,eq_self,e5,hln,u0,u1,ad0,d0,gT5,gc5,hlc5,hrd,e6,gO,c2,gO1,c3,q1,q3,q4,q5,q6,gO2,gc2,eqB,decide_true,gT2,c5,q7]|refine WP_drw ?_|refine cnd_intro (fun hsp=>?_) fun hsp=>?_)
     exact fB rfl (xh.trans z3)
    ·have tu:(ordL o L.C.length=0)=False:=eq_false co
     obtain ⟨Z,eZ⟩:∃ Z,Z=G5:=⟨_,rfl⟩
     have xZ:Ext G4 Z:=by rw [eZ];exact x5
     rw [← eZ] at e5 hln gT5 gc5 hlc5 hrd d0
     obtain ⟨lt,elt⟩:∃ lt:List Int,lt=[]:=⟨_,rfl⟩
     have hT:Ints Z (.slice none 0 0) lt:=by rw [elt];exact ints_nil
     have tv:trdE L o ring=(lt,ordL o L.C.length):=by
      have:lcdE L o=ordL o L.C.length:=by unfold lcdE;rw [if_pos c]
      unfold trdE;rw [this,if_pos co,elt]
     have hf:Ints Z fs ((fnd L).headD []):=by rw [eZ];exact hf5
     have lZ:=xZ.len
     have aO:=aO4.ext xZ
     have iM:=iM4.ext xZ
     have iN:=iN4.ext xZ
     have gO:=xZ.get gO4
     have gT:=xZ.get gT4
     have gc:=xZ.get gc4
     obtain ⟨_,Z1,c2,z1,gw,lg,rfl,oG,rP1,rP2⟩:=run_Ring (base:=h.length) (h:=Z) (by omega) aO
     have ogw:=oG.one
     rw [rv] at c2 rP1 rP2
     have lz1:=z1.len
     obtain ⟨_,Z2,c3,z2,tw,rfl,oU⟩:=run_Turned (base:=h.length) (h:=Z1) (by omega) (aO.ext z1) (iM.ext z1) (iN.ext z1)
     have otw:=oU.one
     rw [tv] at c3 oU
     have gO1:=z1.get gO
     have gO2:=z2.get gO1
     have z12:=z1.trans z2
     have gT2:=z12.get gT
     have gc2:=z12.get gc
     have slt:Small lt:=by have:=@trdE_small L o ring;rw [tv] at this;exact this
     have iT:Ints Z2 tw lt:=own_ints oU slt
     have xh:=xh4.trans (xZ.trans z12)
     have q1:=fun base=>run_eqI (base:=base) iT (hT.ext z12)
     have q3:=fun base=>run_same (base:=base) (aO.ext z12) (hL.ext xh) (by omega)
     have q4:=fun base=>run_eqI (base:=base) (iM.ext z12) (hO.ext xh)
     have q6:=fun base=>run_eqI (base:=base) (iN.ext z12) (hG.ext xh)
     rw [decide_eq_true rfl] at q1 q4 q6
     have q5:=fun base=>run_awake (base:=base) (h:=Z2)
     unfold lacB at gO gO1 gO2 gc2
     obtain ⟨i1,i2,i3,i4⟩:=ring_is c (rP2 rfl)
     have hxo:(fnd L).headD [] ∈ fnd L:=by
      cases q:fnd L with
      | nil=>exact absurd q cf
      | cons a l=>simp
     have lz2:=z2.len
     obtain ⟨_,Z3,c5,z3,uw,rfl,oV⟩:=run_rturned (base:=h.length) (h:=Z2) (by omega) (aT4.ext (xZ.trans z12)) hok (hf.ext z12) (fnd_ord hxo) (own_ints (oG.ext z2) i4) (ring_few c (rP2 rfl))
     have ouw:=oV.one
     rw [i1] at c5
     have q7:=fun base=>run_awake (base:=base) (h:=Z3)
     have hsp:=@Nat.succ_ne_zero;repeat' (first|simp (disch:=first|exact dq|fail) only [go_sem,↓reduceIte,hsp,← eG0,g0',hg,hlo,hlr,t1,t2,e1,g01,e2,e3,e4,← eG4,gT4,hck,eq_self,e5,hln,u0,u1,ad0,d0,gT5,gc5,hlc5,hrd,tu,gO,c2,gO1,c3,q1,q3,q4,q5,q6,gO2,gc2,eqB,decide_true,gT2,c5,q7]|refine WP_drw ?_|refine cnd_intro (fun hsp=>?_) fun hsp=>?_)
     exact fB rfl (xh.trans z3)
 ·have tu:(chkL L=0)=False:=eq_false c
  obtain ⟨-,-,-,rv,-⟩:=found_bad c
  obtain ⟨Z,eZ⟩:∃ Z,Z=G4:=⟨_,rfl⟩
  have xZ:Ext G4 Z:=by rw [eZ];exact .refl
  have gT4':=gT4
  rw [← eZ] at eG4 gT4' hck
  obtain ⟨lt,elt⟩:∃ lt:List Int,lt=[]:=⟨_,rfl⟩
  have hT:Ints Z (.slice none 0 0) lt:=by rw [elt];exact ints_nil
  have tv:trdE L o ring=(lt,chkL L):=by
   have:lcdE L o=chkL L:=by unfold lcdE;rw [if_neg c]
   unfold trdE;rw [this,if_pos c,elt]
  have lZ:=xZ.len
  have aO:=aO4.ext xZ
  have iM:=iM4.ext xZ
  have iN:=iN4.ext xZ
  have gO:=xZ.get gO4
  have gT:=xZ.get gT4
  have gc:=xZ.get gc4
  obtain ⟨_,Z1,c2,z1,gw,lg,rfl,oG,rP1,rP2⟩:=run_Ring (base:=h.length) (h:=Z) (by omega) aO
  have ogw:=oG.one
  rw [rv] at c2 rP1 rP2
  have lz1:=z1.len
  obtain ⟨_,Z2,c3,z2,tw,rfl,oU⟩:=run_Turned (base:=h.length) (h:=Z1) (by omega) (aO.ext z1) (iM.ext z1) (iN.ext z1)
  have otw:=oU.one
  rw [tv] at c3 oU
  have gO1:=z1.get gO
  have gO2:=z2.get gO1
  have z12:=z1.trans z2
  have gT2:=z12.get gT
  have gc2:=z12.get gc
  have slt:Small lt:=by have:=@trdE_small L o ring;rw [tv] at this;exact this
  have iT:Ints Z2 tw lt:=own_ints oU slt
  have xh:=xh4.trans (xZ.trans z12)
  have q1:=fun base=>run_eqI (base:=base) iT (hT.ext z12)
  have q3:=fun base=>run_same (base:=base) (aO.ext z12) (hL.ext xh) (by omega)
  have q4:=fun base=>run_eqI (base:=base) (iM.ext z12) (hO.ext xh)
  have q6:=fun base=>run_eqI (base:=base) (iN.ext z12) (hG.ext xh)
  rw [decide_eq_true rfl] at q1 q4 q6
  have q5:=fun base=>run_awake (base:=base) (h:=Z2)
  unfold lacB at gO gO1 gO2 gc2
  have hlgz:=rP1 (by omega)
  rw [hlgz] at oG
  have hlg:=own_len (oG.ext z2) Fc.el22 (by simp)
  have z00:((([]:List Int).length:Nat):Int)=0:=rfl
  have hsp:=@Nat.succ_ne_zero;repeat' (first|simp (disch:=first|exact dq|fail) only [go_sem,↓reduceIte,hsp,← eG0,g0',hg,hlo,hlr,t1,t2,e1,g01,e2,e3,e4,← eG4,gT4',hck,eq_self,tu,gO,c2,gO1,c3,q1,q3,q4,q5,q6,gO2,gc2,eqB,decide_true,hlg,z00]|refine WP_drw ?_|refine cnd_intro (fun hsp=>?_) fun hsp=>?_)
  exact fB rfl xh
end Go.AM
namespace Go.AM
open Go.Proofs.Tryz
attribute [-go_sem] put_ne put_same
attribute [local go_sem ↓] put_if
set_option maxHeartbeats 1000000 in
theorem run_chosen {base n s:Nat} {h:Heap} (hb:base≤h.length) (hs:s<2 ^ 20) (hn:n≤20) :
  Ret prog raw base (.fn 86 [] []) [.int .i64 (s:Int),.int .i64 (n:Int)] h (fun v H=>Ext h H∧Own encI 3 h.length H v (memS n s)):=by
 refine ret_raw func86 rfl (by kernel_rfl) ?_
 have hsp:=@Nat.succ_ne_zero;repeat' (first|simp (disch:=first|exact dq|fail) only [go_sem,↓reduceIte,hsp]|refine WP_drw ?_|refine cnd_intro (fun hsp=>?_) fun hsp=>?_)
 refine WP_count [(5,18)] 0 n (Nat.zero_le _) (fun _ i fr h'=>fr 6=.int .i64 (i:Int)∧Ext h h'∧∃ v,fr 5=v∧Own encI 3 h.length h' v (memS i s)) ?_ ?_ ?_
 ·exact ⟨by (simp (disch:=first|exact dq|fail) only [go_sem,↓reduceIte,Int.natCast_zero];first|done|rfl),.refl,.slice none 0 0,by simp (disch:=first|exact dq|fail) only [go_sem,↓reduceIte],Own.nil⟩
 ·rintro i fr K hi0 hi hA ⟨r6,xK,v,r5,hO⟩
  have q0:=hA 0 rfl
  have q1:=hA 1 rfl
  have q4:=hA 4 rfl
  try simp (disch:=first|exact dq|fail) only [go_sem,↓reduceIte] at q0 q1 q4
  have hlt:((i:Int)<(n:Int))=True:=eq_true (by omega)
  have hKl:=xK.len
  have hml:=memS_len (n:=i) (s:=s)
  have hlf:=fun base=>run_lifts (base:=base) (h:=K) (x:=s) (k:=i) (by omega) (by omega)
  cases htb:s.testBit i with
  | true =>
   rw [htb] at hlf
   obtain ⟨v',h',ea,hO',hle,hE,h1'⟩:=hO.append1 (y:=(i:Int)) (base:=base) (t:=22) rfl rfl Fc.el22 encI_sc (by omega) hKl (by omega)
   have hsp:=@Nat.succ_ne_zero;repeat' (first|simp (disch:=first|exact dq|fail) only [go_sem,↓reduceIte,hsp,r6,r5,q0,q1,q4,hlt,hlf,ea]|refine WP_drw ?_|refine cnd_intro (fun hsp=>?_) fun hsp=>?_)
   refine ⟨agq,by omega,hE _ (Nat.le_refl _) xK,v',rfl,?_⟩
   rw [memS_succ,if_pos (by rw [htb])]
   exact hO'
  | false =>
   rw [htb] at hlf
   have hsp:=@Nat.succ_ne_zero;repeat' (first|simp (disch:=first|exact dq|fail) only [go_sem,↓reduceIte,hsp,r6,r5,q0,q1,q4,hlt,hlf]|refine WP_drw ?_|refine cnd_intro (fun hsp=>?_) fun hsp=>?_)
   refine ⟨agq,by omega,xK,v,rfl,?_⟩
   rw [memS_succ,if_neg (by rw [htb];decide),List.append_nil]
   exact hO
 ·rintro fr K hA ⟨r6,xK,v,r5,hO⟩
  have q0:=hA 0 rfl
  have q1:=hA 1 rfl
  have q4:=hA 4 rfl
  try simp (disch:=first|exact dq|fail) only [go_sem,↓reduceIte] at q0 q1 q4
  have hlt:((n:Int)<(n:Int))=False:=eq_false (by omega)
  have hsp:=@Nat.succ_ne_zero;repeat' (first|simp (disch:=first|exact dq|fail) only [go_sem,↓reduceIte,hsp,r6,r5,q0,q1,q4,hlt]|refine WP_drw ?_|refine cnd_intro (fun hsp=>?_) fun hsp=>?_)
  exact ⟨xK,hO⟩
set_option maxHeartbeats 1000000 in
theorem run_before {base:Nat} {h:Heap} {av bv:AVal} {a b:List Int} (hA0:Ints h av a) (hB0:Ints h bv b) :
  callL prog raw base (.fn 87 [] []) [av,bv] h=some (.bool (btL a b),h):=by
 have o1:=hA0.one
 have o2:=hB0.one
 have la:=lenI hA0
 have lb:=lenI hB0
 have ba:=hA0.1.1
 have bb:=hB0.1.1
 refine callL_run func87 rfl rfl ?_
 by_cases c:a.length=b.length
 ·have t1:((a.length:Int)=(b.length:Int))=True:=eq_true (by omega)
  have r:btL a b=lexB a b:=by unfold btL;rw [decide_eq_false (by omega),decide_eq_true c];rfl
  rw [r]
  have hsp:=@Nat.succ_ne_zero;repeat' (first|simp (disch:=first|exact dq|fail) only [go_sem,↓reduceIte,hsp,la,lb,t1,not_true,decide_false]|refine WP_drw ?_|refine cnd_intro (fun hsp=>?_) fun hsp=>?_)
  refine WP_count [(4,39)] 0 a.length (Nat.zero_le _) (fun H0 i fr h'=>fr 5=.int .i64 (i:Int)∧h'=H0∧lexB a b=lexB (a.drop i) (b.drop i)) ?_ ?_ ?_
  ·exact ⟨by (simp (disch:=first|exact dq|fail) only [go_sem,↓reduceIte,Int.natCast_zero];first|done|rfl),rfl,rfl⟩
  ·rintro i fr H hi0 hi hA ⟨r5,eH,hx⟩
   subst eH
   have p0:=hA 0 rfl
   have p1:=hA 1 rfl
   try simp (disch:=first|exact dq|fail) only [go_sem,↓reduceIte] at p0 p1
   have hlt:((i:Int)<(a.length:Int))=True:=eq_true (by omega)
   have hlb:i<b.length:=by omega
   have da:a.drop i=a.getD i 0 :: a.drop (i+1):=by rw [List.drop_eq_getElem_cons hi,getD_at hi]
   have db:b.drop i=b.getD i 0 :: b.drop (i+1):=by rw [List.drop_eq_getElem_cons hlb,getD_at hlb]
   have ai:=adrI (i:=(i:Int)) (by omega) hA0 (by omega)
   have bi:=adrI (i:=(i:Int)) (by omega) hB0 (by omega)
   rw [Int.toNat_natCast] at ai bi
   have lai:=loadI hA0 hi
   have lbi:=loadI hB0 hlb
   rw [da,db] at hx
   simp only [lexB] at hx
   by_cases c1:a.getD i 0=b.getD i 0
   ·have t2:(a.getD i 0=b.getD i 0)=True:=eq_true c1
    rw [if_pos c1] at hx
    have hsp:=@Nat.succ_ne_zero;repeat' (first|simp (disch:=first|exact dq|fail) only [go_sem,↓reduceIte,hsp,r5,p0,p1,hlt,ai,bi,lai,lbi,t2,not_true,decide_false]|refine WP_drw ?_|refine cnd_intro (fun hsp=>?_) fun hsp=>?_)
    exact ⟨agq,by omega,hx⟩
   ·have t2:(a.getD i 0=b.getD i 0)=False:=eq_false c1
    rw [if_neg c1] at hx
    rw [hx]
    have hsp:=@Nat.succ_ne_zero;repeat' (first|simp (disch:=first|exact dq|fail) only [go_sem,↓reduceIte,hsp,r5,p0,p1,hlt,ai,bi,lai,lbi,t2,not_false_iff,decide_true]|refine WP_drw ?_|refine cnd_intro (fun hsp=>?_) fun hsp=>?_)
    exact fB rfl
  ·rintro fr H hA ⟨r5,eH,hx⟩
   subst eH
   have p0:=hA 0 rfl
   have p1:=hA 1 rfl
   try simp (disch:=first|exact dq|fail) only [go_sem,↓reduceIte] at p0 p1
   have hlt:((a.length:Int)<(a.length:Int))=False:=eq_false (by omega)
   rw [List.drop_length] at hx
   simp only [lexB] at hx
   rw [hx]
   have hsp:=@Nat.succ_ne_zero;repeat' (first|simp (disch:=first|exact dq|fail) only [go_sem,↓reduceIte,hsp,r5,p0,p1,hlt]|refine WP_drw ?_|refine cnd_intro (fun hsp=>?_) fun hsp=>?_)
   exact fB rfl
 ·have t1:((a.length:Int)=(b.length:Int))=False:=eq_false (by omega)
  have hsp:=@Nat.succ_ne_zero;repeat' (first|simp (disch:=first|exact dq|fail) only [go_sem,↓reduceIte,hsp,la,lb,t1,not_false_iff,decide_true]|refine WP_drw ?_|refine cnd_intro (fun hsp=>?_) fun hsp=>?_)
  refine fB ?_
  unfold btL
  rw [decide_eq_false c,Bool.false_and,Bool.or_false]
  exact decide_eq_decide.2 (by omega)
theorem keyL_take {l o:List Int} {j:Nat} (hj:j<l.length):keyL (l.take (j+1)) o=keyL (l.take j) o++[o.getD (l.getD j 0).toNat 0]:=by
 unfold keyL
 rw [take_succ' hj,List.map_append,getD_at hj]
 rfl
theorem keyL_step {l o u:List Int} {j:Nat} (hj:j<l.length):decide (keyL (l.take (j+1)) o=keyL (l.take (j+1)) u)=(decide (keyL (l.take j) o=keyL (l.take j) u) && decide (o.getD (l.getD j 0).toNat 0=u.getD (l.getD j 0).toNat 0)):=by
 rw [keyL_take hj,keyL_take hj,← Bool.decide_and]
 refine decide_eq_decide.2 ⟨fun q=>?_,fun q=>by rw [q.1,q.2]⟩
 obtain ⟨q1,q2⟩:=List.append_inj' q rfl
 exact ⟨q1,by simpa using q2⟩
theorem nodup_injG {α:Type} {l:List α} (hn:l.Nodup) {i j:Nat} (hi:i<l.length) (hj:j<l.length) (e:l[i]=l[j]):i=j:=by
 rcases Nat.lt_trichotomy i j with q|q|q
 ·exact absurd e (List.pairwise_iff_getElem.1 hn i j hi hj q)
 ·exact q
 ·exact absurd e.symm (List.pairwise_iff_getElem.1 hn j i hj hi q)
theorem nodup_snocG {α:Type} {l:List α} {x:α}:(l++[x]).Nodup ↔ l.Nodup∧x ∉ l:=by
 rw [List.nodup_append]
 simp
 exact fun _=>⟨fun h q=>h x q rfl,fun h a ha e=>h (e ▸ ha)⟩
set_option maxHeartbeats 4000000 in
theorem run_decides {base n:Nat} {h:Heap} {av lv:AVal} {os:List (List Int)} {l:List Int} (hA:AllB 0 h av os) (hl:os.length≤823543) (ho:∀ o ∈ os,Ord n o) (hn:n≤7) (hI:Ints h lv l) (hx:∀ x ∈ l,0≤x∧x<(n:Int)) :
  callL prog raw base (.fn 113 [] []) [av,lv] h=some (.bool (dcdP os l),h):=by
 have oa:=hA.one
 have ol:=hI.one
 have hlb:=hI.1.1
 have lA:=hA.all.len (by omega)
 have lI:=lenI hI
 refine callL_run func113 rfl rfl ?_
 have hsp:=@Nat.succ_ne_zero;repeat' (first|simp (disch:=first|exact dq|fail) only [go_sem,↓reduceIte,hsp]|refine WP_drw ?_|refine cnd_intro (fun hsp=>?_) fun hsp=>?_)
 refine WP_count [(4,50)] 0 os.length (Nat.zero_le _) (fun _ i fr H=>fr 5=.int .i64 (i:Int)∧H=h∧((os.take i).map (keyL l)).Nodup) ?_ ?_ ?_
 ·exact ⟨by (simp (disch:=first|exact dq|fail) only [go_sem,↓reduceIte,Int.natCast_zero];first|done|rfl),rfl,by simp⟩
 ·rintro i fr H hi0 hi hA1 ⟨r5,rfl,hN⟩
  have q0:=hA1 0 rfl
  have q1:=hA1 1 rfl
  try simp (disch:=first|exact dq|fail) only [go_sem,↓reduceIte] at q0 q1
  have hlt:((i:Int)<(os.length:Int))=True:=eq_true (by omega)
  obtain ⟨o,eo⟩:∃ o,o=os[i]:=⟨_,rfl⟩
  have hoi:os[i]?=some o:=by rw [eo];exact List.getElem?_eq_getElem hi
  have hoo:=ho o (List.mem_of_getElem? hoi)
  obtain ⟨ea,w,ad,ld,ow⟩:=hA.at (A:=H) (by omega) hoi
  have ldH:=ld H .refl
  have oww:=ow.one
  have iw:=ownE_ints ow (ord_small hoo (by omega))
  have hsp:=@Nat.succ_ne_zero;repeat' (first|simp (disch:=first|exact dq|fail) only [go_sem,↓reduceIte,hsp,r5,q0,q1,lA,hlt]|refine WP_drw ?_|refine cnd_intro (fun hsp=>?_) fun hsp=>?_)
  refine WP_count [(4,4),(6,50)] 0 i (Nat.zero_le _) (fun _ k fr K=>fr 6=.int .i64 (k:Int)∧K=H∧∀ m u,m<k→os[m]?=some u→keyL l o ≠ keyL l u) ?_ ?_ ?_
  ·exact ⟨by (simp (disch:=first|exact dq|fail) only [go_sem,↓reduceIte,Int.natCast_zero];first|done|rfl),rfl,fun m u hm=>by omega⟩
  ·rintro k fr2 K hk0 hk hA2 ⟨r6,rfl,hD⟩
   have d0:=hA2 0 rfl
   have d1:=hA2 1 rfl
   have d5:=hA2 5 rfl
   try simp (disch:=first|exact dq|fail) only [go_sem,↓reduceIte,q0,q1] at d0 d1 d5
   have hlt2:((k:Int)<(i:Int))=True:=eq_true (by omega)
   obtain ⟨u,eu⟩:∃ u,u=os[k]'(by omega):=⟨_,rfl⟩
   have hui:os[k]?=some u:=by rw [eu];exact List.getElem?_eq_getElem (by omega)
   have huo:=ho u (List.mem_of_getElem? hui)
   obtain ⟨eb,z,bd,lz,oz⟩:=hA.at (A:=K) (by omega) hui
   have lzK:=lz K .refl
   have ozz:=oz.one
   have iz:=ownE_ints oz (ord_small huo (by omega))
   have hsp:=@Nat.succ_ne_zero;repeat' (first|simp (disch:=first|exact dq|fail) only [go_sem,↓reduceIte,hsp,r5,r6,d0,d1,d5,q0,q1,hlt2]|refine WP_drw ?_|refine cnd_intro (fun hsp=>?_) fun hsp=>?_)
   refine WP_count [(7,49)] 0 l.length (Nat.zero_le _) (fun _ j fr X=>fr 8=.int .i64 (j:Int)∧X=K∧fr 7=.bool (decide (keyL (l.take j) o=keyL (l.take j) u))) ?_ ?_ ?_
   ·exact ⟨by (simp (disch:=first|exact dq|fail) only [go_sem,↓reduceIte,Int.natCast_zero];first|done|rfl),rfl,by simp (disch:=first|exact dq|fail) only [go_sem,↓reduceIte];simp [keyL]⟩
   ·rintro j fr3 X hj0 hj hA3 ⟨r8,rfl,r7⟩
    have g0:=hA3 0 rfl
    have g1:=hA3 1 rfl
    have g4:=hA3 4 rfl
    have g5:=hA3 5 rfl
    have g6:=hA3 6 rfl
    try simp (disch:=first|exact dq|fail) only [go_sem,↓reduceIte,d0,d1,d5] at g0 g1 g4 g5 g6
    have hlt3:((j:Int)<(l.length:Int))=True:=eq_true (by omega)
    have aj:=adrI (i:=(j:Int)) (by omega) hI (by omega)
    rw [Int.toNat_natCast] at aj
    have lj:=loadI hI hj
    have hp:=hx _ (getD_mem hj)
    obtain ⟨p,ep⟩:=Int.eq_ofNat_of_zero_le hp.1
    have hst:=keyL_step (o:=o) (u:=u) hj
    rw [ep] at lj hp hst
    rw [Int.toNat_natCast] at hst
    have hpo:p<o.length:=by rw [hoo.1];omega
    have hpu:p<u.length:=by rw [huo.1];omega
    have ap:=adrI (i:=(p:Int)) (by omega) iw (by omega)
    have bp:=adrI (i:=(p:Int)) (by omega) iz (by omega)
    rw [Int.toNat_natCast] at ap bp
    have lp:=loadI iw hpo
    have mp:=loadI iz hpu
    cases wv:decide (keyL (l.take j) o=keyL (l.take j) u) with
    | true =>
     rw [wv] at r7
     rw [wv,Bool.true_and] at hst
     have hsp:=@Nat.succ_ne_zero;repeat' (first|simp (disch:=first|exact dq|fail) only [go_sem,↓reduceIte,hsp,r8,r7,r5,r6,g0,g1,g4,g5,g6,d0,d1,d5,q0,q1,lI,hlt3,ad,ldH,aj,lj,ap,lp,bd,lzK,bp,mp]|refine WP_drw ?_|refine cnd_intro (fun hsp=>?_) fun hsp=>?_)
     exact ⟨agq,by omega,by rw [hst]⟩
    | false =>
     rw [wv] at r7
     rw [wv,Bool.false_and] at hst
     have hsp:=@Nat.succ_ne_zero;repeat' (first|simp (disch:=first|exact dq|fail) only [go_sem,↓reduceIte,hsp,r8,r7,r5,r6,g0,g1,g4,g5,g6,d0,d1,d5,q0,q1,lI,hlt3]|refine WP_drw ?_|refine cnd_intro (fun hsp=>?_) fun hsp=>?_)
     exact ⟨agq,by omega,by rw [hst]⟩
   ·rintro fr3 X hA3 ⟨r8,rfl,r7⟩
    have g0:=hA3 0 rfl
    have g1:=hA3 1 rfl
    have g4:=hA3 4 rfl
    have g5:=hA3 5 rfl
    have g6:=hA3 6 rfl
    try simp (disch:=first|exact dq|fail) only [go_sem,↓reduceIte,d0,d1,d5] at g0 g1 g4 g5 g6
    have hlt3:((l.length:Int)<(l.length:Int))=False:=eq_false (by omega)
    rw [List.take_length] at r7
    by_cases cw:keyL l o=keyL l u
    ·rw [decide_eq_true cw] at r7
     have hsp:=@Nat.succ_ne_zero;repeat' (first|simp (disch:=first|exact dq|fail) only [go_sem,↓reduceIte,hsp,r8,r7,r5,r6,g0,g1,g4,g5,g6,d0,d1,d5,q0,q1,lI,hlt3]|refine WP_drw ?_|refine cnd_intro (fun hsp=>?_) fun hsp=>?_)
     refine fB ?_
     unfold dcdP
     refine (decide_eq_false fun hF=>?_).symm
     have h1:(os.map (keyL l))[i]'(by simpa using hi)=(os.map (keyL l))[k]'(by simp;omega):=by
      rw [List.getElem_map,List.getElem_map,← eo,← eu,cw]
     have:=nodup_injG hF _ _ h1
     omega
    ·rw [decide_eq_false cw] at r7
     have hsp:=@Nat.succ_ne_zero;repeat' (first|simp (disch:=first|exact dq|fail) only [go_sem,↓reduceIte,hsp,r8,r7,r5,r6,g0,g1,g4,g5,g6,d0,d1,d5,q0,q1,lI,hlt3]|refine WP_drw ?_|refine cnd_intro (fun hsp=>?_) fun hsp=>?_)
     refine ⟨agq,by omega,fun m y hm hy=>?_⟩
     by_cases e:m=k
     ·rw [e,hui] at hy;cases hy;exact cw
     ·exact hD m y (by omega) hy
  ·rintro fr2 K hA2 ⟨r6,rfl,hD⟩
   have d0:=hA2 0 rfl
   have d1:=hA2 1 rfl
   have d5:=hA2 5 rfl
   try simp (disch:=first|exact dq|fail) only [go_sem,↓reduceIte,q0,q1] at d0 d1 d5
   have hlt2:((i:Int)<(i:Int))=False:=eq_false (by omega)
   have hsp:=@Nat.succ_ne_zero;repeat' (first|simp (disch:=first|exact dq|fail) only [go_sem,↓reduceIte,hsp,r5,r6,d0,d1,d5,q0,q1,hlt2]|refine WP_drw ?_|refine cnd_intro (fun hsp=>?_) fun hsp=>?_)
   refine ⟨agq,by omega,?_⟩
   rw [List.take_add_one,hoi,List.map_append]
   refine nodup_snocG.2 ?_
   refine ⟨hN,fun hm=>?_⟩
   obtain ⟨y,hy,ey⟩:=List.mem_map.1 hm
   obtain ⟨m,hm1,hm2⟩:=List.mem_iff_getElem.1 hy
   rw [List.length_take] at hm1
   rw [List.getElem_take] at hm2
   exact hD m y (by omega) (by rw [← hm2];exact List.getElem?_eq_getElem (by omega)) ey.symm
 ·rintro fr H hA1 ⟨r5,rfl,hN⟩
  have q0:=hA1 0 rfl
  have q1:=hA1 1 rfl
  try simp (disch:=first|exact dq|fail) only [go_sem,↓reduceIte] at q0 q1
  have hlt:((os.length:Int)<(os.length:Int))=False:=eq_false (by omega)
  rw [List.take_length] at hN
  have hsp:=@Nat.succ_ne_zero;repeat' (first|simp (disch:=first|exact dq|fail) only [go_sem,↓reduceIte,hsp,r5,q0,q1,lA,hlt]|refine WP_drw ?_|refine cnd_intro (fun hsp=>?_) fun hsp=>?_)
  exact fB (by unfold dcdP;rw [decide_eq_true hN])
def lvsR (os:List (List Int)) (p:Nat):Nat→Int
 | 0=>0
 | i+1=>max (lvsR os p i) ((os.countP fun o=>decide ((os.getD i []).getD p 0=o.getD p 0):Nat):Int)
theorem lvsR_ge {os:List (List Int)} {p:Nat}:∀ i,0≤lvsR os p i∧lvsR os p i≤(os.length:Int)∧∀ j,j<i→((os.countP fun o=>decide ((os.getD j []).getD p 0=o.getD p 0):Nat):Int)≤lvsR os p i
 | 0=>⟨Int.le_refl _,Int.natCast_nonneg _,fun j hj=>by omega⟩
 | i+1=>by
  have ih:=lvsR_ge (os:=os) (p:=p) i
  have hc:os.countP (fun o=>decide ((os.getD i []).getD p 0=o.getD p 0))≤os.length:=List.countP_le_length
  rw [lvsR]
  refine ⟨by omega,by omega,fun j hj=>?_⟩
  by_cases e:j=i
  ·subst e;omega
  ·have:=ih.2.2 j (by omega);omega
theorem lvsR_is {os:List (List Int)} {p:Nat}:∀ i,lvsR os p i=0 ∨ ∃ j,j<i∧lvsR os p i=((os.countP fun o=>decide ((os.getD j []).getD p 0=o.getD p 0):Nat):Int)
 | 0=>.inl rfl
 | i+1=>by
  rw [lvsR]
  rcases Int.le_total (lvsR os p i) ((os.countP fun o=>decide ((os.getD i []).getD p 0=o.getD p 0):Nat):Int) with q|q
  ·exact .inr ⟨i,by omega,Int.max_eq_right q⟩
  ·rw [Int.max_eq_left q]
   rcases lvsR_is (os:=os) (p:=p) i with e|⟨j,hj,e⟩
   ·exact .inl e
   ·exact .inr ⟨j,by omega,e⟩
theorem lvsR_eq {n p:Nat} {os:List (List Int)} (ho:∀ o ∈ os,Ord n o) (hp:p<n):lvsR os p os.length=lvsN n os p:=by
 obtain ⟨g1,g2,g3⟩:=lvsR_ge (os:=os) (p:=p) os.length
 have hat:∀ k,k<n→(lst (fun k=>((os.countP fun o=>decide (o.getD p 0=(k:Int)):Nat):Int)) n).getD k 0=((os.countP fun o=>decide (o.getD p 0=(k:Int)):Nat):Int):=fun k hk=>lst_get hk
 refine Int.le_antisymm ?_ ?_
 ·rcases lvsR_is (os:=os) (p:=p) os.length with e|⟨j,hj,e⟩
  ·rw [e];exact grt_ge.1
  ·rw [e]
   have hm:=ho _ (List.getElem_mem hj)
   have hg:os.getD j []=os[j]:=by rw [List.getD_eq_getElem?_getD,List.getElem?_eq_getElem hj];rfl
   rw [← hg] at hm
   obtain ⟨c,ec⟩:=Int.eq_ofNat_of_zero_le (hm.2.1 _ (getD_mem (l:=os.getD j []) (i:=p) (by rw [hm.1];exact hp))).1
   have hc:=(hm.2.1 _ (getD_mem (l:=os.getD j []) (i:=p) (by rw [hm.1];exact hp))).2
   rw [ec] at hc ⊢
   have e2:(os.countP fun o=>decide ((c:Int)=o.getD p 0))=os.countP fun o=>decide (o.getD p 0=(c:Int)):=by
    refine List.countP_congr fun o _=>?_
    simp only [decide_eq_true_eq]
    exact eq_comm
   rw [e2,← hat c (by omega)]
   exact grt_ge.2 _ (getD_mem (by rw [lst_len];omega))
 ·unfold lvsN
  refine (grt_le g1 fun x hx=>?_).2
  obtain ⟨k,hk,e⟩:=List.mem_iff_getElem.1 hx
  rw [lst_len] at hk
  have e1:=hat k hk
  rw [getD_at (by rw [lst_len];exact hk),e] at e1
  rw [e1]
  by_cases hz:os.countP (fun o=>decide (o.getD p 0=(k:Int)))=0
  ·rw [hz];exact g1
  ·obtain ⟨o,hom,hok⟩:=List.countP_pos_iff.1 (Nat.pos_of_ne_zero hz)
   obtain ⟨j,hj,ej⟩:=List.mem_iff_getElem.1 hom
   have:=g3 j hj
   have hg:os.getD j []=o:=by rw [List.getD_eq_getElem?_getD,List.getElem?_eq_getElem hj,ej];rfl
   rw [hg,of_decide_eq_true hok] at this
   have e2:(os.countP fun o=>decide ((k:Int)=o.getD p 0))=os.countP fun o=>decide (o.getD p 0=(k:Int)):=by
    refine List.countP_congr fun o _=>?_
    simp only [decide_eq_true_eq]
    exact eq_comm
   rw [e2] at this
   exact this
theorem cnt_step {α:Type} {f:α→Bool} {os:List α} {j:Nat} {u:α} (hu:os[j]?=some u):(os.take (j+1)).countP f=(os.take j).countP f+(if f u=true then 1 else 0):=by
 rw [List.take_add_one,hu,List.countP_append]
 show _+List.countP f [u]=_
 rw [List.countP_cons,List.countP_nil]
 omega
set_option maxHeartbeats 4000000 in
theorem run_Leaves {base n p:Nat} {h:Heap} {av:AVal} {os:List (List Int)} (hA:AllB 0 h av os) (hl:os.length≤823543) (ho:∀ o ∈ os,Ord n o) (hn:n≤7) (hp:p<n) :
  callL prog raw base (.fn 78 [] []) [av,.int .i64 (p:Int)] h=some (.int .i64 (lvsN n os p),h):=by
 have oa:=hA.one
 have lA:=hA.all.len (by omega)
 rw [← lvsR_eq ho hp]
 refine callL_run func78 rfl rfl ?_
 have hsp:=@Nat.succ_ne_zero;repeat' (first|simp (disch:=first|exact dq|fail) only [go_sem,↓reduceIte,hsp]|refine WP_drw ?_|refine cnd_intro (fun hsp=>?_) fun hsp=>?_)
 refine WP_count [(5,40)] 0 os.length (Nat.zero_le _) (fun _ i fr H=>fr 6=.int .i64 (i:Int)∧H=h∧fr 5=.int .i64 (lvsR os p i)) ?_ ?_ ?_
 ·exact ⟨by (simp (disch:=first|exact dq|fail) only [go_sem,↓reduceIte,Int.natCast_zero];first|done|rfl),rfl,by simp (disch:=first|exact dq|fail) only [go_sem,↓reduceIte];rfl⟩
 ·rintro i fr H hi0 hi hA1 ⟨r6,rfl,r5⟩
  have q0:=hA1 0 rfl
  have q1:=hA1 1 rfl
  have q4:=hA1 4 rfl
  try simp (disch:=first|exact dq|fail) only [go_sem,↓reduceIte] at q0 q1 q4
  have hlt:((i:Int)<(os.length:Int))=True:=eq_true (by omega)
  obtain ⟨o,eo⟩:∃ o,o=os[i]:=⟨_,rfl⟩
  have hoi:os[i]?=some o:=by rw [eo];exact List.getElem?_eq_getElem hi
  have hgo:os.getD i []=o:=by rw [List.getD_eq_getElem?_getD,hoi];rfl
  have hoo:=ho o (List.mem_of_getElem? hoi)
  obtain ⟨ea,w,ad,ld,ow⟩:=hA.at (A:=H) (by omega) hoi
  have ldH:=ld H .refl
  have oww:=ow.one
  have iw:=ownE_ints ow (ord_small hoo (by omega))
  have hpo:p<o.length:=by rw [hoo.1];exact hp
  have ap:=adrI (i:=(p:Int)) (by omega) iw (by omega)
  rw [Int.toNat_natCast] at ap
  have lp:=loadI iw hpo
  have hs:lvsR os p (i+1)=max (lvsR os p i) ((os.countP fun u=>decide (o.getD p 0=u.getD p 0):Nat):Int):=by rw [lvsR,hgo]
  have hsp:=@Nat.succ_ne_zero;repeat' (first|simp (disch:=first|exact dq|fail) only [go_sem,↓reduceIte,hsp,r5,r6,q0,q1,q4,lA,hlt]|refine WP_drw ?_|refine cnd_intro (fun hsp=>?_) fun hsp=>?_)
  refine WP_count [(7,37)] 0 os.length (Nat.zero_le _) (fun _ j fr K=>fr 8=.int .i64 (j:Int)∧K=H∧fr 7=.int .i64 (((os.take j).countP fun u=>decide (o.getD p 0=u.getD p 0):Nat):Int)) ?_ ?_ ?_
  ·exact ⟨by (simp (disch:=first|exact dq|fail) only [go_sem,↓reduceIte,Int.natCast_zero];first|done|rfl),rfl,by simp (disch:=first|exact dq|fail) only [go_sem,↓reduceIte];rfl⟩
  ·rintro j fr2 K hj0 hj hA2 ⟨r8,rfl,r7⟩
   have d0:=hA2 0 rfl
   have d1:=hA2 1 rfl
   have d4:=hA2 4 rfl
   have d5:=hA2 5 rfl
   have d6:=hA2 6 rfl
   try simp (disch:=first|exact dq|fail) only [go_sem,↓reduceIte,q0,q1,q4] at d0 d1 d4 d5 d6
   have hlt2:((j:Int)<(os.length:Int))=True:=eq_true (by omega)
   obtain ⟨u,eu⟩:∃ u,u=os[j]:=⟨_,rfl⟩
   have hui:os[j]?=some u:=by rw [eu];exact List.getElem?_eq_getElem (by omega)
   have huo:=ho u (List.mem_of_getElem? hui)
   obtain ⟨eb,z,bd,lz,oz⟩:=hA.at (A:=K) (by omega) hui
   have lzK:=lz K .refl
   have ozz:=oz.one
   have iz:=ownE_ints oz (ord_small huo (by omega))
   have hpu:p<u.length:=by rw [huo.1];exact hp
   have bp:=adrI (i:=(p:Int)) (by omega) iz (by omega)
   rw [Int.toNat_natCast] at bp
   have mp:=loadI iz hpu
   have hcs:=cnt_step (f:=fun u=>decide (o.getD p 0=u.getD p 0)) hui
   have hcl:(os.take j).countP (fun u=>decide (o.getD p 0=u.getD p 0))≤(os.take j).length:=List.countP_le_length
   rw [List.length_take] at hcl
   by_cases c:o.getD p 0=u.getD p 0
   ·have t1:(o.getD p 0=u.getD p 0)=True:=eq_true c
    rw [decide_eq_true c,if_pos rfl] at hcs
    have hsp:=@Nat.succ_ne_zero;repeat' (first|simp (disch:=first|exact dq|fail) only [go_sem,↓reduceIte,hsp,r8,r7,r5,r6,d0,d1,d4,d5,d6,q0,q1,q4,lA,hlt2,ad,ldH,ap,lp,bd,lzK,bp,mp,t1]|refine WP_drw ?_|refine cnd_intro (fun hsp=>?_) fun hsp=>?_)
    exact ⟨agq,by omega,by rw [hcs];congr 1⟩
   ·have t1:(o.getD p 0=u.getD p 0)=False:=eq_false c
    rw [decide_eq_false c,if_neg (by decide)] at hcs
    have hsp:=@Nat.succ_ne_zero;repeat' (first|simp (disch:=first|exact dq|fail) only [go_sem,↓reduceIte,hsp,r8,r7,r5,r6,d0,d1,d4,d5,d6,q0,q1,q4,lA,hlt2,ad,ldH,ap,lp,bd,lzK,bp,mp,t1]|refine WP_drw ?_|refine cnd_intro (fun hsp=>?_) fun hsp=>?_)
    exact ⟨agq,by omega,by rw [hcs];rfl⟩
  ·rintro fr2 K hA2 ⟨r8,rfl,r7⟩
   have d0:=hA2 0 rfl
   have d1:=hA2 1 rfl
   have d4:=hA2 4 rfl
   have d5:=hA2 5 rfl
   have d6:=hA2 6 rfl
   try simp (disch:=first|exact dq|fail) only [go_sem,↓reduceIte,q0,q1,q4] at d0 d1 d4 d5 d6
   have hlt2:((os.length:Int)<(os.length:Int))=False:=eq_false (by omega)
   rw [List.take_length] at r7
   have hsp:=@Nat.succ_ne_zero;repeat' (first|simp (disch:=first|exact dq|fail) only [go_sem,↓reduceIte,hsp,r8,r7,r5,r6,d0,d1,d4,d5,d6,q0,q1,q4,lA,hlt2]|refine WP_drw ?_|refine cnd_intro (fun hsp=>?_) fun hsp=>?_)
   exact ⟨agq,by omega,by rw [hs]⟩
 ·rintro fr H hA1 ⟨r6,rfl,r5⟩
  have q0:=hA1 0 rfl
  have q1:=hA1 1 rfl
  have q4:=hA1 4 rfl
  try simp (disch:=first|exact dq|fail) only [go_sem,↓reduceIte] at q0 q1 q4
  have hlt:((os.length:Int)<(os.length:Int))=False:=eq_false (by omega)
  have hsp:=@Nat.succ_ne_zero;repeat' (first|simp (disch:=first|exact dq|fail) only [go_sem,↓reduceIte,hsp,r5,r6,q0,q1,q4,lA,hlt]|refine WP_drw ?_|refine cnd_intro (fun hsp=>?_) fun hsp=>?_)
  exact fI rfl
set_option maxHeartbeats 4000000 in
theorem run_rDecide {base n:Nat} {h:Heap} {av:AVal} {os:List (List Int)} (hb:base≤h.length) (hA:AllB 0 h av os) (hl:os.length≤823543) (ho:∀ o ∈ os,Ord n o) (hN:os.Nodup) (hn:n≤7) :
  Ret prog raw base (.fn 77 [] []) [av,.int .i64 (n:Int)] h (fun w H=>Ext h H∧Own encI 3 h.length H w (dcdL n os)):=by
 have oa:=hA.one
 have hR:=dcdR_is hN (fun o h=>(ho o h).1)
 have hst:=fun base h=>run_sets (base:=base) (h:=h) (T:=n) (by omega)
 obtain ⟨m,em⟩:∃ m,m=2 ^ n:=⟨_,rfl⟩
 have hm:m≤2 ^ 7:=by rw [em];exact Nat.pow_le_pow_right (by decide) hn
 rw [← em] at hR hst
 have hsb:∀ s,s<m→∀ x ∈ memS n s,0≤x∧x<(n:Int):=fun s hs x hx=>upto_mem.1 (memS_sub.subset hx)
 have hsl:∀ s,(memS n s).length≤n:=fun s=>sub_len memS_sub
 have hsm:∀ s,s<m→Small (memS n s):=fun s hs=>⟨by have:=hsl s;omega,fun x hx=>by have:=hsb s hs x hx;omega⟩
 refine ret_raw func77 rfl (by kernel_rfl) ?_
 have hsp:=@Nat.succ_ne_zero;repeat' (first|simp (disch:=first|exact dq|fail) only [go_sem,↓reduceIte,hsp]|refine WP_drw ?_|refine cnd_intro (fun hsp=>?_) fun hsp=>?_)
 refine WP_count [(5,30)] 0 m (Nat.zero_le _) (fun _ i fr K=>fr 7=.int .i64 (i:Int)∧Ext h K∧fr 6=.bool (dcdR n os i).isSome∧Small ((dcdR n os i).getD [])∧∃ v,fr 5=v∧Own encI 3 h.length K v ((dcdR n os i).getD [])) ?_ ?_ ?_
 ·exact ⟨by (simp (disch:=first|exact dq|fail) only [go_sem,↓reduceIte,Int.natCast_zero];first|done|rfl),.refl,by simp (disch:=first|exact dq|fail) only [go_sem,↓reduceIte];rfl,⟨by simp [dcdR],by simp [dcdR]⟩,.slice none 0 0,by simp (disch:=first|exact dq|fail) only [go_sem,↓reduceIte],Own.nil⟩
 ·rintro i fr K hi0 hi hA1 ⟨r7,xK,r6,hS,v,r5,hO⟩
  have q0:=hA1 0 rfl
  have q1:=hA1 1 rfl
  have q4:=hA1 4 rfl
  try simp (disch:=first|exact dq|fail) only [go_sem,↓reduceIte] at q0 q1 q4
  have hlt:((i:Int)<(m:Int))=True:=eq_true (by omega)
  have hstK:=fun base=>hst base K
  have lK:=xK.len
  have ov:=hO.one
  obtain ⟨w,Z,e1,z1,oW⟩:=run_chosen (base:=base) (h:=K) (n:=n) (s:=i) (by omega) (by omega) (by omega)
  have ow:=oW.one
  have lZ:=z1.len
  have iW:=own_ints oW (hsm i hi)
  have iV:=own_ints (hO.ext z1) hS
  have bfo:=fun base=>run_before (base:=base) iW iV
  have dco:=fun base=>run_decides (base:=base) (n:=n) (hA.ext (xK.trans z1)) hl ho hn iW (hsb i hi)
  have xZ:=xK.trans z1
  have hd:dcdR n os (i+1)=if ((dcdR n os i).all (fun b=>btL (memS n i) b) && dcdP os (memS n i))=true then some (memS n i) else dcdR n os i:=rfl
  have key:∀ b,dcdP os (memS n i)=b→∀ c,(dcdR n os i).all (fun b=>btL (memS n i) b)=c→dcdR n os (i+1)=if (c && b)=true then some (memS n i) else dcdR n os i:=fun b hb c hc=>by rw [hd,hb,hc]
  cases eD:dcdR n os i with
  | none =>
   rw [eD] at r6 hS hO key
   have r6:fr 6=.bool false:=r6
   cases w2:dcdP os (memS n i) with
   | true =>
    rw [w2] at dco
    have hk:dcdR n os (i+1)=some (memS n i):=by rw [key true w2 true rfl];rfl
    have hsp:=@Nat.succ_ne_zero;repeat' (first|simp (disch:=first|exact dq|fail) only [go_sem,↓reduceIte,hsp,r7,r6,r5,q0,q1,q4,hstK,hlt,e1,dco,Bool.not_false]|refine WP_drw ?_|refine cnd_intro (fun hsp=>?_) fun hsp=>?_)
    exact ⟨agq,by omega,xZ,by rw [hk];rfl,by rw [hk];exact hsm i hi,w,rfl,by rw [hk];exact oW.low (by omega)⟩
   | false =>
    rw [w2] at dco
    have hk:dcdR n os (i+1)=none:=by rw [key false w2 true rfl];rfl
    have hsp:=@Nat.succ_ne_zero;repeat' (first|simp (disch:=first|exact dq|fail) only [go_sem,↓reduceIte,hsp,r7,r6,r5,q0,q1,q4,hstK,hlt,e1,dco,Bool.not_false]|refine WP_drw ?_|refine cnd_intro (fun hsp=>?_) fun hsp=>?_)
    exact ⟨agq,by omega,xZ,by rw [hk];rfl,by rw [hk];exact hS,v,rfl,by rw [hk];exact hO.ext z1⟩
  | some x =>
   rw [eD] at r6 hS hO key bfo
   have r6:fr 6=.bool true:=r6
   have bfo:∀ base,callL prog raw base (.fn 87 [] []) [w,v] Z=some (.bool (btL (memS n i) x),Z):=bfo
   cases w1:btL (memS n i) x with
   | true =>
    rw [w1] at bfo
    cases w2:dcdP os (memS n i) with
    | true =>
     rw [w2] at dco
     have hk:dcdR n os (i+1)=some (memS n i):=by rw [key true w2 true w1];rfl
     have hsp:=@Nat.succ_ne_zero;repeat' (first|simp (disch:=first|exact dq|fail) only [go_sem,↓reduceIte,hsp,r7,r6,r5,q0,q1,q4,hstK,hlt,e1,bfo,dco,Bool.not_true]|refine WP_drw ?_|refine cnd_intro (fun hsp=>?_) fun hsp=>?_)
     exact ⟨agq,by omega,xZ,by rw [hk];rfl,by rw [hk];exact hsm i hi,w,rfl,by rw [hk];exact oW.low (by omega)⟩
    | false =>
     rw [w2] at dco
     have hk:dcdR n os (i+1)=some x:=by rw [key false w2 true w1];rfl
     have hsp:=@Nat.succ_ne_zero;repeat' (first|simp (disch:=first|exact dq|fail) only [go_sem,↓reduceIte,hsp,r7,r6,r5,q0,q1,q4,hstK,hlt,e1,bfo,dco,Bool.not_true]|refine WP_drw ?_|refine cnd_intro (fun hsp=>?_) fun hsp=>?_)
     exact ⟨agq,by omega,xZ,by rw [hk];rfl,by rw [hk];exact hS,v,rfl,by rw [hk];exact hO.ext z1⟩
   | false =>
    rw [w1] at bfo
    have hk:dcdR n os (i+1)=some x:=by rw [key _ rfl false w1];rfl
    have hsp:=@Nat.succ_ne_zero;repeat' (first|simp (disch:=first|exact dq|fail) only [go_sem,↓reduceIte,hsp,r7,r6,r5,q0,q1,q4,hstK,hlt,e1,bfo,Bool.not_true]|refine WP_drw ?_|refine cnd_intro (fun hsp=>?_) fun hsp=>?_)
    exact ⟨agq,by omega,xZ,by rw [hk];rfl,by rw [hk];exact hS,v,rfl,by rw [hk];exact hO.ext z1⟩
 ·rintro fr K hA1 ⟨r7,xK,r6,hS,v,r5,hO⟩
  have q0:=hA1 0 rfl
  have q1:=hA1 1 rfl
  have q4:=hA1 4 rfl
  try simp (disch:=first|exact dq|fail) only [go_sem,↓reduceIte] at q0 q1 q4
  have hlt:((m:Int)<(m:Int))=False:=eq_false (by omega)
  have hstK:=fun base=>hst base K
  rw [hR] at hO
  have hsp:=@Nat.succ_ne_zero;repeat' (first|simp (disch:=first|exact dq|fail) only [go_sem,↓reduceIte,hsp,r7,r6,r5,q0,q1,q4,hstK,hlt]|refine WP_drw ?_|refine cnd_intro (fun hsp=>?_) fun hsp=>?_)
  exact ⟨xK,hO⟩
end Go.AM
