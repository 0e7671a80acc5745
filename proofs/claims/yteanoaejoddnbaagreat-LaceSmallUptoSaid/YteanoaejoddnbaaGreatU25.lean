/-
  LaceAsks, walked.
-/
import Derived.Test.YteanoaejoddnbaaGreatU24
import Derived.Test.YteanoaejoddnbaaGreatU20
import Derived.Test.YteanoaejoddnbaaGreatU9
set_option linter.unusedSimpArgs false
set_option linter.unusedVariables false
namespace Go.AM
open Go.Proofs.Tryz
attribute [-go_sem] put_ne put_same
attribute [local go_sem ↓] put_if
theorem run_wide {base:Nat} {h:Heap} {v:AVal} {L:Lac} (hL:LacAt h v L):callL prog raw base (.fn 76 [] []) [v,.int .i64 5] h=some (.bool (decide (5<L.C.length∧L.C.length≤7)),h):=by
 obtain ⟨cv,rv,rfl,hC,hR⟩:=hL
 have o1:=hC.one
 have o2:=hR.one
 obtain ⟨G,eG⟩:∃ G,G=h++[lacB L.T cv rv]:=⟨_,rfl⟩
 have xG:Ext h G:=by rw [eG];exact .app .refl
 have g0:G[h.length]?=some (lacB L.T cv rv):=by rw [eG];exact get_eq rfl
 have hn1:=lenI (hC.ext xG)
 unfold lacB at eG g0
 refine callL_run func76 rfl rfl ?_
 by_cases c:5<L.C.length
 ·have t1:((L.C.length:Int) > 5)=True:=eq_true (by omega)
  by_cases d:L.C.length≤7
  ·have t2:((L.C.length:Int)≤7)=True:=eq_true (by omega)
   have hsp:=@Nat.succ_ne_zero;repeat' (first|simp (disch:=first|exact dq|fail) only [go_sem,↓reduceIte,hsp,← eG,g0,hn1,t1,t2]|refine WP_drw ?_|refine cnd_intro (fun hsp=>?_) fun hsp=>?_)
   exact fB (by rw [decide_eq_true ⟨c,d⟩]) xG
  ·have t2:((L.C.length:Int)≤7)=False:=eq_false (by omega)
   have hsp:=@Nat.succ_ne_zero;repeat' (first|simp (disch:=first|exact dq|fail) only [go_sem,↓reduceIte,hsp,← eG,g0,hn1,t1,t2]|refine WP_drw ?_|refine cnd_intro (fun hsp=>?_) fun hsp=>?_)
   exact fB (by rw [decide_eq_false (by omega)]) xG
 ·have t1:((L.C.length:Int) > 5)=False:=eq_false (by omega)
  have hsp:=@Nat.succ_ne_zero;repeat' (first|simp (disch:=first|exact dq|fail) only [go_sem,↓reduceIte,hsp,← eG,g0,hn1,t1]|refine WP_drw ?_|refine cnd_intro (fun hsp=>?_) fun hsp=>?_)
  exact fB (by rw [decide_eq_false (by omega)]) xG
set_option maxRecDepth 100000 in
set_option maxHeartbeats 16000000 in
theorem run_LaceAsks {base:Nat} {h:Heap} {v0:AVal} (hL0:LacN 1048576 h v0) :
  callL prog raw base (.fn 19 [] []) [v0] h=some (.bool true,h):=by
 obtain ⟨L,hL,-,-⟩:=hL0
 have hLL:=hL
 obtain ⟨cv,rv,rfl,hC,hR⟩:=hLL
 have o1:=hC.one
 have o2:=hR.one
 obtain ⟨G0,eG0⟩:∃ G0,G0=h++[lacB L.T cv rv]:=⟨_,rfl⟩
 have x0:Ext h G0:=by rw [eG0];exact .app .refl
 have g0:G0[h.length]?=some (lacB L.T cv rv):=by rw [eG0];exact get_eq rfl
 have lG0:G0.length=h.length+1:=by rw [eG0];simp
 have hg:=fun base=>run_great (base:=base) (hL.ext x0)
 have hw:=fun base=>run_wide (base:=base) (hL.ext x0)
 have haw:=fun base=>run_awake (base:=base) (h:=G0)
 unfold lacB at eG0
 have g0':=g0
 unfold lacB at g0'
 refine callL_run func19 rfl rfl ?_
 by_cases cg:12<L.C.length ∨ 16<L.R.length
 ·rw [decide_eq_true cg] at hg
  have hsp:=@Nat.succ_ne_zero;repeat' (first|simp (disch:=first|exact dq|fail) only [go_sem,↓reduceIte,hsp,← eG0,g0',hg,haw]|refine WP_drw ?_|refine cnd_intro (fun hsp=>?_) fun hsp=>?_)
  exact fB rfl x0
 rw [decide_eq_false cg] at hg
 by_cases cl:5<L.C.length∧L.C.length≤7
 ·rw [decide_eq_true cl] at hw
  have hsp:=@Nat.succ_ne_zero;repeat' (first|simp (disch:=first|exact dq|fail) only [go_sem,↓reduceIte,hsp,← eG0,g0',hg,hw,haw]|refine WP_drw ?_|refine cnd_intro (fun hsp=>?_) fun hsp=>?_)
  exact fB rfl x0
 rw [decide_eq_false cl] at hw
 obtain ⟨_,G1,e1,x1,cw,rw1,rfl,oC,oR⟩:=run_own (base:=h.length) (h:=G0) (by omega) (hL.ext x0) (by omega) (by omega)
 have l1:=x1.len
 obtain ⟨_,G3,e2,x3,aT,cv2,rw2,rfl,-,oT⟩:=run_theirs (base:=h.length) (h:=G1) (by omega) (hL.ext (x0.trans x1)) (by omega)
 have l3:=x3.len
 have ocw:=oC.one
 have orw:=oR.one
 have ot2:=oT.one
 have oc2:One cv2:=by
  obtain ⟨_,_,q,q2,_⟩:=aT
  simp only [AVal.agg.injEq,List.cons.injEq,and_true] at q
  rw [q.2.1];exact q2.one
 obtain ⟨G4,eG4⟩:∃ G4,G4=G3++[lacB L.T cw rw1]++[rcB L.T cv2 rw2]:=⟨_,rfl⟩
 have x4:Ext G3 G4:=by rw [eG4];exact .app (.app .refl)
 have l4:G4.length=G3.length+2:=by rw [eG4];simp
 have gO4:G4[G3.length]?=some (lacB L.T cw rw1):=by rw [eG4];exact get_app (get_eq rfl)
 have gT4:G4[G3.length+1]?=some (rcB L.T cv2 rw2):=by rw [eG4];exact get_eq (by simp)
 have x14:=x3.trans x4
 have xh4:Ext h G4:=(x0.trans x1).trans x14
 have hsC:Small L.C:=⟨by omega,hC.1.2⟩
 have aO4:LacAt G4 (.agg [.int .i64 L.T,cw,rw1]) L:=⟨cw,rw1,rfl,(ownE_ints oC hsC).ext x14,(oR.rows (by omega)).ext x14⟩
 have aT4:LacAt G4 (.agg [.int .i64 L.T,cv2,rw2]) L:=aT.ext x4
 have gc4:G4[h.length]?=some (lacB L.T cv rv):=(x1.trans x14).get g0
 have hck:=fun base=>run_rcheck (base:=base) aT4 (by omega) (by omega)
 have g01:=x1.get g0'
 unfold lacB rcB at eG4
 unfold rcB at gT4
 have hlc:=fun {K} (e:Ext G4 K)=>lenI (hC.ext (xh4.trans e))
 by_cases c:chkL L=0
 ·have hok:=chkL_iff.1 c
  have hn:=hok.n
  rw [c] at hck
  obtain ⟨lw,G5,e5,x5,aA⟩:=run_All (base:=h.length) (h:=G4) (by omega) aT4 hok
  have l5:=x5.len
  have olw:=aA.one
  have hfew:=fnd_few (L:=L) hn.2
  have hln:=aA.all.len (by omega)
  have gc5:=x5.get gc4
  unfold lacB at gc5
  have hlc5:=hlc x5
  by_cases cf:fnd L=[]
  ·rw [cf] at hln
   have ef:fndE L=([],7):=by unfold fndE;rw [if_neg (by simp [c]),if_pos cf]
   obtain ⟨Z,eZ⟩:∃ Z,Z=G5:=⟨_,rfl⟩
   have xZ:Ext G4 Z:=by rw [eZ];exact x5
   rw [← eZ] at e5 hln gc5 hlc5
   obtain ⟨ld,eld⟩:∃ ld:List Int,ld=[]:=⟨_,rfl⟩
   have sld:Small ld:=by rw [eld];exact ⟨by simp,by simp⟩
   have hD:Ints Z (.slice none 0 0) ld:=by rw [eld];exact ints_nil
   have av:askE L=(0,0,7):=by unfold askE;rw [ef];simp
   have dv:dcdE L=(ld,7):=by unfold dcdE;rw [ef,eld];simp
   have z0:((([]:List (List Int)).length:Nat):Int)=0:=rfl
   have tz:((0:Int) > 0)=False:=eq_false (by omega)
   have lZ:=xZ.len
   have aO:=aO4.ext xZ
   have gO:=xZ.get gO4
   have gc:=xZ.get gc4
   have c2:=fun base=>run_Ask (base:=base) aO
   obtain ⟨_,Z1,c3,z1,dw,rfl,oD⟩:=run_Decide (base:=h.length) (h:=Z) (by omega) aO
   have odw:=oD.one
   rw [av] at c2
   rw [dv] at c3 oD
   have lz1:=z1.len
   have gO1:=z1.get gO
   have gc1:=z1.get gc
   have xh:=xh4.trans (xZ.trans z1)
   have iD:Ints Z1 dw ld:=own_ints oD sld
   have w1:=fun base=>run_eqI (base:=base) iD (hD.ext z1)
   have w3:=fun base=>run_same (base:=base) (aO.ext z1) (hL.ext xh) (by omega)
   rw [decide_eq_true rfl] at w1
   have w5:=fun base=>run_awake (base:=base) (h:=Z1)
   unfold lacB at gO gO1 gc1
   have hsp:=@Nat.succ_ne_zero;repeat' (first|simp (disch:=first|exact dq|fail) only [go_sem,↓reduceIte,hsp,← eG0,g0',hg,hw,e1,g01,e2,← eG4,gT4,hck,eq_self,e5,hln,z0,tz,gO,c2,c3,eqB,decide_true,w1,gO1,gc1,w3,w5]|refine WP_drw ?_|refine cnd_intro (fun hsp=>?_) fun hsp=>?_)
   exact fB rfl xh
  ·have hpos:=List.length_pos_iff.2 cf
   have t2:(((fnd L).length:Int) > 0)=True:=eq_true (by omega)
   have ef:fndE L=(fnd L,0):=by unfold fndE;rw [if_neg (by simp [c]),if_neg cf]
   have hO:∀ o ∈ fnd L,Ord L.C.length o:=fun o ho=>fnd_ord ho
   obtain ⟨ld,eld⟩:∃ ld:List Int,ld=dcdL L.C.length (fnd L):=⟨_,rfl⟩
   obtain ⟨xw,Z,e6,x6,oX⟩:=run_rDecide (base:=h.length) (h:=G5) (n:=L.C.length) (by omega) (aA.low (Nat.zero_le _)) hfew hO fnd_nodup (by omega)
   have oxw:=oX.one
   rw [← eld] at oX
   have xZ:=x5.trans x6
   have l6:=x6.len
   have gc6:=x6.get gc5
   have hlc6:=hlc xZ
   have hln6:=(aA.ext x6).all.len (by omega)
   have aA6:=(aA.ext x6).low (Nat.zero_le _)
   have hsub:ld.Sublist (upto L.C.length):=by rw [eld];exact (dcdL_is fnd_nodup (fun o h=>(hO o h).1)).2.2.1
   have sld:Small ld:=⟨by have:=sub_len hsub;omega,fun x hx=>by have:=upto_mem.1 (hsub.subset hx);omega⟩
   have hD:Ints Z xw ld:=own_ints oX sld
   obtain ⟨A,eA⟩:∃ A,A=askN L.C.length (fnd L):=⟨_,rfl⟩
   have av:askE L=((A L.C.length).1,(A L.C.length).2,0):=by unfold askE;rw [ef,eA];simp
   have dv:dcdE L=(ld,0):=by unfold dcdE;rw [ef,eld];simp
   have hsp:=@Nat.succ_ne_zero;repeat' (first|simp (disch:=first|exact dq|fail) only [go_sem,↓reduceIte,hsp,← eG0,g0',hg,hw,e1,g01,e2,← eG4,gT4,hck,eq_self,e5,hln,t2,gc5,hlc5,e6,gc6,hlc6]|refine WP_drw ?_|refine cnd_intro (fun hsp=>?_) fun hsp=>?_)
   refine WP_count [(6,7),(10,11),(45,60)] 0 L.C.length (Nat.zero_le _) (fun _ i fr H=>fr 45=.int .i64 (i:Int)∧H=Z∧fr 6=.int .i64 (A i).1∧fr 7=.int .i64 (A i).2) ?_ ?_ ?_
   ·exact ⟨by (simp (disch:=first|exact dq|fail) only [go_sem,↓reduceIte,Int.natCast_zero];first|done|rfl),rfl,by rw [eA];simp (disch:=first|exact dq|fail) only [go_sem,↓reduceIte];rfl,by rw [eA];simp (disch:=first|exact dq|fail) only [go_sem,↓reduceIte];rfl⟩
   ·rintro i fr H hi0 hi hA2 ⟨r45,rfl,r6,r7⟩
    have q1:=hA2 1 rfl
    have q2:=hA2 2 rfl
    have q3:=hA2 3 rfl
    have q5:=hA2 5 rfl
    have q8:=hA2 8 rfl
    have q9:=hA2 9 rfl
    have q44:=hA2 44 rfl
    try simp (disch:=first|exact dq|fail) only [go_sem,↓reduceIte] at q1 q2 q3 q5 q8 q9 q44
    have hlt:((i:Int)<(L.C.length:Int))=True:=eq_true (by omega)
    have hlv:=fun base=>run_Leaves (base:=base) (n:=L.C.length) (p:=i) aA6 hfew hO (by omega) hi
    obtain ⟨m,em⟩:∃ m,m=lvsN L.C.length (fnd L) i:=⟨_,rfl⟩
    rw [← em] at hlv
    have hs:A (i+1)=if i=0 ∨ m<(A i).2 then ((i:Int),m) else A i:=by rw [eA,askN,em]
    by_cases q1:i=0
    ·rw [if_pos (.inl q1)] at hs
     have z:(i:Int)=0:=by omega
     rw [z] at hlt hlv r45 hs
     have hsp:=@Nat.succ_ne_zero;repeat' (first|simp (disch:=first|exact dq|fail) only [go_sem,↓reduceIte,hsp,r45,r6,r7,q1,q2,q3,q5,q8,q9,q44,hlt,hlv]|refine WP_drw ?_|refine cnd_intro (fun hsp=>?_) fun hsp=>?_)
     have hs1:A 1=(0,m):=by rw [← hs,q1]
     exact ⟨agq,by rw [hs1],by rw [hs1]⟩
    ·have t1:((i:Int)=0)=False:=eq_false (by omega)
     by_cases q2:m<(A i).2
     ·have t2:(m<(A i).2)=True:=eq_true q2
      rw [if_pos (.inr q2)] at hs
      have hsp:=@Nat.succ_ne_zero;repeat' (first|simp (disch:=first|exact dq|fail) only [go_sem,↓reduceIte,hsp,r45,r6,r7,q1,q2,q3,q5,q8,q9,q44,hlt,hlv,t1,t2]|refine WP_drw ?_|refine cnd_intro (fun hsp=>?_) fun hsp=>?_)
      exact ⟨agq,by omega,by rw [hs],by rw [hs]⟩
     ·have t2:(m<(A i).2)=False:=eq_false q2
      rw [if_neg (fun z=>z.elim q1 q2)] at hs
      have hsp:=@Nat.succ_ne_zero;repeat' (first|simp (disch:=first|exact dq|fail) only [go_sem,↓reduceIte,hsp,r45,r6,r7,q1,q2,q3,q5,q8,q9,q44,hlt,hlv,t1,t2]|refine WP_drw ?_|refine cnd_intro (fun hsp=>?_) fun hsp=>?_)
      exact ⟨agq,by omega,by rw [hs],by rw [hs]⟩
   ·rintro fr H hA2 ⟨r45,eZZ,r6,r7⟩
    have q1:=hA2 1 rfl
    have q2:=hA2 2 rfl
    have q3:=hA2 3 rfl
    have q5:=hA2 5 rfl
    have q8:=hA2 8 rfl
    have q9:=hA2 9 rfl
    have q44:=hA2 44 rfl
    try simp (disch:=first|exact dq|fail) only [go_sem,↓reduceIte] at q1 q2 q3 q5 q8 q9 q44
    have hlt:((L.C.length:Int)<(L.C.length:Int))=False:=eq_false (by omega)
    rw [eZZ]
    have lZ:=xZ.len
    have aO:=aO4.ext xZ
    have gO:=xZ.get gO4
    have gc:=xZ.get gc4
    have c2:=fun base=>run_Ask (base:=base) aO
    obtain ⟨_,Z1,c3,z1,dw,rfl,oD⟩:=run_Decide (base:=h.length) (h:=Z) (by omega) aO
    have odw:=oD.one
    rw [av] at c2
    rw [dv] at c3 oD
    have lz1:=z1.len
    have gO1:=z1.get gO
    have gc1:=z1.get gc
    have xh:=xh4.trans (xZ.trans z1)
    have iD:Ints Z1 dw ld:=own_ints oD sld
    have w1:=fun base=>run_eqI (base:=base) iD (hD.ext z1)
    have w3:=fun base=>run_same (base:=base) (aO.ext z1) (hL.ext xh) (by omega)
    rw [decide_eq_true rfl] at w1
    have w5:=fun base=>run_awake (base:=base) (h:=Z1)
    unfold lacB at gO gO1 gc1
    have hsp:=@Nat.succ_ne_zero;repeat' (first|simp (disch:=first|exact dq|fail) only [go_sem,↓reduceIte,hsp,r45,r6,r7,q1,q2,q3,q5,q8,q9,q44,hlt,gO,c2,c3,eqB,decide_true,eq_self,w1,gO1,gc1,w3,w5]|refine WP_drw ?_|refine cnd_intro (fun hsp=>?_) fun hsp=>?_)
    exact fB rfl xh
 ·have tu:(chkL L=0)=False:=eq_false c
  obtain ⟨-,-,-,-,-,av,dv0⟩:=found_bad c
  obtain ⟨Z,eZ⟩:∃ Z,Z=G4:=⟨_,rfl⟩
  have xZ:Ext G4 Z:=by rw [eZ];exact .refl
  have gT4':=gT4
  rw [← eZ] at eG4 gT4' hck
  obtain ⟨ld,eld⟩:∃ ld:List Int,ld=[]:=⟨_,rfl⟩
  have sld:Small ld:=by rw [eld];exact ⟨by simp,by simp⟩
  have hD:Ints Z (.slice none 0 0) ld:=by rw [eld];exact ints_nil
  have dv:dcdE L=(ld,chkL L):=by rw [dv0,eld]
  have lZ:=xZ.len
  have aO:=aO4.ext xZ
  have gO:=xZ.get gO4
  have gc:=xZ.get gc4
  have c2:=fun base=>run_Ask (base:=base) aO
  obtain ⟨_,Z1,c3,z1,dw,rfl,oD⟩:=run_Decide (base:=h.length) (h:=Z) (by omega) aO
  have odw:=oD.one
  rw [av] at c2
  rw [dv] at c3 oD
  have lz1:=z1.len
  have gO1:=z1.get gO
  have gc1:=z1.get gc
  have xh:=xh4.trans (xZ.trans z1)
  have iD:Ints Z1 dw ld:=own_ints oD sld
  have w1:=fun base=>run_eqI (base:=base) iD (hD.ext z1)
  have w3:=fun base=>run_same (base:=base) (aO.ext z1) (hL.ext xh) (by omega)
  rw [decide_eq_true rfl] at w1
  have w5:=fun base=>run_awake (base:=base) (h:=Z1)
  unfold lacB at gO gO1 gc1
  have hsp:=@Nat.succ_ne_zero;repeat' (first|simp (disch:=first|exact dq|fail) only [go_sem,↓reduceIte,hsp,← eG0,g0',hg,hw,e1,g01,e2,← eG4,gT4',hck,tu,gO,c2,c3,eqB,decide_true,w1,gO1,gc1,w3,w5]|refine WP_drw ?_|refine cnd_intro (fun hsp=>?_) fun hsp=>?_)
  exact fB rfl xh
end Go.AM
namespace Go.AM
open Go.Proofs.Tryz
section
variable {α β:Type} {E:Enc α} {E2:Enc β} {e e2 t:TypeId} {b base:Nat} {H G:Heap} {v w x:AVal} {l m:List α} {l2:List β} {zs:List AVal}
theorem clear_own {y:α} (hO:OwnE E e b H v l) (ht:elS prog t=some (e,E.z,E.cells y)) (hs:∀ y,(E.cells y).all AVal.scalar=true) (hb:base≤b) :
  ∃ H',clearA prog base H t v=some (.tuple [],H')∧H'.length=H.length∧(∀ G,G.length≤b→Ext G H→Ext G H')∧(∀ w l2,OwnE E e b H w l2→∃ l3,OwnE E e b H' w l3)∧KeepO E e H H':=by
 rcases hO with (⟨rfl,rfl⟩|⟨id,ver,rfl,h1,h2,h3⟩)|⟨rfl,rfl⟩
 ·exact ⟨H,by simp [clearA,ht],rfl,fun G _ g=>g,fun w l2 q=>⟨l2,q⟩,fun i y g _=>g⟩
 ·obtain ⟨n,hn⟩:∃ n,l.length=n+1:=⟨l.length-1,by omega⟩
  have hc:(flat E l).length=(repCells (E.cells y) (n+1)).length:=by rw [repCells_length,flat_len,hn,E.len,Nat.mul_comm]
  refine ⟨H.set id (rowE E e (List.replicate (n+1) y) ver),?_,by simp,fun G hG g=>g.set (show G.length≤id by omega),fun w l2 q=>?_,fun i z g hz=>?_⟩
  ·rw [hn]
   simp only [clearA,ht,storeN,h1,rowE]
   rw [if_pos ⟨trivial,by rw [hc];simp,by rw [rep_flat];exact flat_scalar hs _,.inl (by omega)⟩,splice_all hc,rep_flat]
  ·rcases q with (⟨rfl,rfl⟩|⟨id2,ver2,rfl,g1,g2,g3⟩)|⟨rfl,rfl⟩
   ·exact ⟨[],.inl Own.nil⟩
   ·by_cases c:id2=id
    ·subst c
     rw [h1] at g1
     have g1':=Option.some.inj g1
     have hv:ver=ver2:=congrArg ABlk.ver g1'
     have hcl:flat E l=flat E l2:=by
      have:=congrArg ABlk.body g1'
      simp only [rowE] at this
      exact ABody.cells.inj this |>.1
     have hll:l2.length=n+1:=by
      have:=congrArg List.length hcl
      rw [flat_len,flat_len] at this
      rw [← hn]
      exact (Nat.eq_of_mul_eq_mul_right E.pos this).symm
     refine ⟨List.replicate (n+1) y,.inl (.inr ⟨id2,ver,by rw [hv,hll,List.length_replicate],by rw [List.getElem?_set_self (lt_of_get h1)],g2,by simp⟩)⟩
    ·exact ⟨l2,.inl (.inr ⟨id2,ver2,rfl,by rw [List.getElem?_set_ne (fun q=>c q.symm)];exact g1,g2,g3⟩)⟩
   ·exact ⟨[],.inr ⟨rfl,rfl⟩⟩
  ·have hne:id ≠ i:=by
    rintro rfl
    rw [h1] at g
    exact hz l ver (Option.some.inj g).symm
   rw [List.getElem?_set_ne hne]
   exact g
 ·exact ⟨H,by simp [clearA,ht],rfl,fun G _ g=>g,fun w l2 q=>⟨l2,q⟩,fun i y g _=>g⟩
end
end Go.AM
namespace Go.AM
open Go.Proofs.Tryz
attribute [-go_sem] put_ne put_same
attribute [local go_sem ↓] put_if
theorem fitE_small {L:Lac} {p:Int}:Small (fitE L p).1:=by
 have e:Small ([]:List Int):=⟨by simp,by simp⟩
 unfold fitE
 split
 ·exact e
 ·rename_i h0
  split
  ·exact e
  ·have hn:=(chkL_iff.1 (Classical.not_not.1 h0)).n
   refine ⟨Nat.lt_of_le_of_lt (fitN_len (L:=L) (p:=p.toNat) (k:=L.C.length)) (by omega),fun x hx=>?_⟩
   have:=fitN_mem (show x ∈ fitN L p.toNat L.C.length from hx)
   omega
theorem wvE_small {L:Lac} {o:List Int} {n:Int}:Small (wvE L o n).1:=by
 have e:Small ([]:List Int):=⟨by simp,by simp⟩
 unfold wvE
 split
 ·rename_i h0
  split
  ·have hc:chkL L=0:=Classical.byContradiction fun q=>q (by unfold lcdE at h0;rw [if_neg q] at h0;exact absurd h0 q)
   have hs:=lac_small hc
   refine ⟨by rw [wvL_len];omega,fun x hx=>?_⟩
   obtain ⟨i,hi,ei⟩:=List.mem_iff_getElem.1 hx
   rw [wvL_len] at hi
   have:x=L.C.getD (o.getD (i % o.length) 0).toNat 0:=by
    rw [← ei,← getD_at (d:=0)]
    exact lst_get hi
   rw [this]
   rcases Nat.lt_or_ge (o.getD (i % o.length) 0).toNat L.C.length with q|q
   ·exact hs.2 _ (getD_mem q)
   ·rw [List.getD_eq_getElem?_getD,List.getElem?_eq_none q]
    simp
  ·exact e
 ·exact e
theorem seeE_few {L:Lac} {r:Rw3} (hl:L.R.length≤16):Small (seeE L r).1.C∧(seeE L r).1.R.length≤17:=by
 have e:Small lac0.C∧lac0.R.length≤17:=⟨⟨by simp [lac0],by simp [lac0]⟩,by simp [lac0]⟩
 unfold seeE
 split
 ·rename_i h0
  split
  ·exact e
  ·split
   ·exact ⟨(lac_small h0:Small L.C),by simp [moreR];omega⟩
   ·exact e
 ·exact e
theorem fitN_succ {L:Lac} {p k:Nat}:fitN L p (k+1)=fitN L p k++(if fitB L p k=true then [(k:Int)] else []):=by
 unfold fitN
 rw [upto_filt,Int.toNat_natCast]
theorem stL68a {base:Nat} {l:List Oper} {s:St} {Q:AExit→St→Prop}:WP prog raw base (.region 12 l.toArray false) s Q=WPS prog raw base (.region 12 l.toArray false) s Q:=WP_stop
attribute [local go_sem ↓ 3000] stL68a
theorem stL68b {base:Nat} {l:List Oper} {s:St} {Q:AExit→St→Prop}:WP prog raw base (.region 21 l.toArray false) s Q=WPS prog raw base (.region 21 l.toArray false) s Q:=WP_stop
attribute [local go_sem ↓ 3000] stL68b
theorem stL68c {base:Nat} {l:List Oper} {s:St} {Q:AExit→St→Prop}:WP prog raw base (.region 30 l.toArray false) s Q=WPS prog raw base (.region 30 l.toArray false) s Q:=WP_stop
attribute [local go_sem ↓ 3000] stL68c
set_option maxRecDepth 100000 in
set_option maxHeartbeats 16000000 in
theorem run_LaceChecks {base:Nat} {h:Heap} {v0 v1 v2 v3 v4:AVal} (hL0:LacN 1048576 h v0) (hp0:IntV h v1) (hO0:IntsN 1048576 h v2) (hn0:IntV h v3) (hr0:RowV h v4) :
  callL prog raw base (.fn 13 [] []) [v0,v1,v2,v3,v4] h=some (.bool true,h):=by
 obtain ⟨L,hL,-,-⟩:=hL0
 obtain ⟨p,rfl⟩:=hp0
 obtain ⟨o,hO,-⟩:=hO0
 obtain ⟨n,rfl⟩:=hn0
 obtain ⟨r,rfl⟩:=hr0
 have hLL:=hL
 obtain ⟨cv,rv,rfl,hC,hR⟩:=hLL
 have o1:=hC.one
 have o2:=hR.one
 have o3:=hO.one
 obtain ⟨G0,eG0⟩:∃ G0,G0=h++[lacB L.T cv rv]++[rwB r]:=⟨_,rfl⟩
 have x0:Ext h G0:=by rw [eG0];exact .app (.app .refl)
 have g0:G0[h.length]?=some (lacB L.T cv rv):=by rw [eG0];exact get_app (get_eq rfl)
 have g1:G0[h.length+1]?=some (rwB r):=by rw [eG0];exact get_eq (by simp)
 have lG0:G0.length=h.length+2:=by rw [eG0];simp
 have hg:=fun base=>run_great (base:=base) (hL.ext x0)
 have hlo:=lenI (hO.ext x0)
 have haw:=fun base=>run_awake (base:=base) (h:=G0)
 unfold lacB rwB at eG0
 have g0':=g0
 unfold lacB at g0'
 refine callL_run func13 rfl rfl ?_
 by_cases cg:12<L.C.length ∨ 16<L.R.length
 ·rw [decide_eq_true cg] at hg
  have hsp:=@Nat.succ_ne_zero;repeat' (first|simp (disch:=first|exact dq|fail) only [go_sem,↓reduceIte,hsp,← eG0,g0',hg,haw]|refine WP_drw ?_|refine cnd_intro (fun hsp=>?_) fun hsp=>?_)
  exact fB rfl x0
 rw [decide_eq_false cg] at hg
 by_cases cl:12<o.length
 ·have t1:((o.length:Int) > 12)=True:=eq_true (by omega)
  have hsp:=@Nat.succ_ne_zero;repeat' (first|simp (disch:=first|exact dq|fail) only [go_sem,↓reduceIte,hsp,← eG0,g0',hg,hlo,t1,haw]|refine WP_drw ?_|refine cnd_intro (fun hsp=>?_) fun hsp=>?_)
  exact fB rfl x0
 have t1:((o.length:Int) > 12)=False:=eq_false (by omega)
 obtain ⟨_,G1,e1,x1,cw,rw1,rfl,oC,oR⟩:=run_own (base:=h.length) (h:=G0) (by omega) (hL.ext x0) (by omega) (by omega)
 have l1:=x1.len
 obtain ⟨_,G2,e2,x2,aT,cv2,rw2,rfl,-,oT⟩:=run_theirs (base:=h.length) (h:=G1) (by omega) (hL.ext (x0.trans x1)) (by omega)
 have l2:=x2.len
 obtain ⟨mw,G3,e3,x3,oM⟩:=run_dupI (base:=h.length) (h:=G2) (by omega) (hO.ext ((x0.trans x1).trans x2)) (by omega)
 have l3:=x3.len
 have ocw:=oC.one
 have orw:=oR.one
 have omw:=oM.one
 have ot2:=oT.one
 have oc2:One cv2:=by
  obtain ⟨_,_,q,q2,_⟩:=aT
  simp only [AVal.agg.injEq,List.cons.injEq,and_true] at q
  rw [q.2.1];exact q2.one
 obtain ⟨G4,eG4⟩:∃ G4,G4=G3++[lacB L.T cw rw1]++[rcB L.T cv2 rw2]:=⟨_,rfl⟩
 have x4:Ext G3 G4:=by rw [eG4];exact .app (.app .refl)
 have l4:G4.length=G3.length+2:=by rw [eG4];simp
 have gO4:G4[G3.length]?=some (lacB L.T cw rw1):=by rw [eG4];exact get_app (get_eq rfl)
 have gT4:G4[G3.length+1]?=some (rcB L.T cv2 rw2):=by rw [eG4];exact get_eq (by simp)
 have x14:=(x2.trans x3).trans x4
 have xh4:Ext h G4:=(x0.trans x1).trans x14
 have hsC:Small L.C:=⟨by omega,hC.1.2⟩
 have hso:Small o:=⟨by omega,hO.1.2⟩
 have aO4:LacAt G4 (.agg [.int .i64 L.T,cw,rw1]) L:=⟨cw,rw1,rfl,(ownE_ints oC hsC).ext x14,(oR.rows (by omega)).ext x14⟩
 have aT4:LacAt G4 (.agg [.int .i64 L.T,cv2,rw2]) L:=aT.ext (x3.trans x4)
 have iM4:Ints G4 mw o:=(ownE_ints oM hso).ext x4
 have gc4:G4[h.length]?=some (lacB L.T cv rv):=(x1.trans x14).get g0
 have gr4:G4[h.length+1]?=some (rwB r):=(x1.trans x14).get g1
 have hck:=fun base=>run_rcheck (base:=base) aT4 (by omega) (by omega)
 have hck2:=fun base=>run_Check (base:=base) aO4
 have g01:=x1.get g0'
 have gO4':=gO4
 obtain ⟨J,eJ⟩:∃ J,J=G4++[lacB 0 (.slice none 0 0) (.slice none 0 0)]:=⟨_,rfl⟩
 have xJ:Ext G4 J:=by rw [eJ];exact .app .refl
 have gbJ:J[G4.length]?=some (lacB 0 (.slice none 0 0) (.slice none 0 0)):=by rw [eJ];exact get_eq rfl
 have lJ:J.length=G4.length+1:=by rw [eJ];simp
 unfold lacB at eJ
 unfold lacB rcB at eG4
 unfold rcB at gT4
 unfold lacB at gO4'
 by_cases c:chkL L=0
 ·have hok:=chkL_iff.1 c
  have hn:=hok.n
  rw [c] at hck hck2
  have gcJ:=xJ.get gc4
  have gTJ:=xJ.get gT4
  have hlc:=lenI (hC.ext (xh4.trans xJ))
  unfold lacB at gcJ
  have hsp:=@Nat.succ_ne_zero;repeat' (first|simp (disch:=first|exact dq|fail) only [go_sem,↓reduceIte,hsp,← eG0,g0',hg,hlo,t1,e1,g01,e2,e3,← eG4,gT4,gO4',hck,hck2,eq_self,not_true,← eJ]|refine WP_drw ?_|refine cnd_intro (fun hsp=>?_) fun hsp=>?_)
  refine WPS_restF fun Z eZ=>?_
  rw [← WP_seq]
  have kZ1:=congrFun eZ 1
  have kZ2:=congrFun eZ 2
  have kZ3:=congrFun eZ 3
  have kZ5:=congrFun eZ 5
  have kZ9:=congrFun eZ 9
  have kZ11:=congrFun eZ 11
  have kZ12:=congrFun eZ 12
  have kZ13:=congrFun eZ 13
  have kZ15:=congrFun eZ 15
  have kZ16:=congrFun eZ 16
  have kZ17:=congrFun eZ 17
  have kZ18:=congrFun eZ 18
  have kZ19:=congrFun eZ 19
  have kZ20:=congrFun eZ 20
  try simp (disch:=first|exact dq|fail) only [go_sem,↓reduceIte] at kZ1 kZ2 kZ3 kZ5 kZ9 kZ11 kZ12 kZ13 kZ15 kZ16 kZ17 kZ18 kZ19 kZ20
  clear eZ
  refine WP_meet (fun fr h'=>Agree [(15,15),(18,18),(21,21),(55,78)] fr Z∧Ext J h'∧fr 15=.int .i64 (fitE L p).2∧∃ x,fr 18=x∧Own encI 3 0 h' x (fitE L p).1) ?_ ?_
  ·rw [WP_seq,WP_region]
   by_cases q0:0≤p
   ·have ta:(p ≥ 0)=True:=eq_true q0
    by_cases q1:p<(L.C.length:Int)
    ·have tb:(p<(L.C.length:Int))=True:=eq_true q1
     obtain ⟨j,ej⟩:=Int.eq_ofNat_of_zero_le q0
     have r:fitE L p=(fitL L j,0):=by unfold fitE;rw [if_neg (by simp [c]),if_neg (by omega),ej,Int.toNat_natCast]
     rw [r]
     have hsp:=@Nat.succ_ne_zero;repeat' (first|simp (disch:=first|exact dq|fail) only [go_sem,↓reduceIte,hsp,kZ1,kZ2,kZ3,kZ5,kZ9,kZ11,kZ12,kZ13,kZ15,kZ16,kZ17,kZ18,kZ19,kZ20,ta,tb,gcJ,hlc]|refine WP_drw ?_|refine cnd_intro (fun hsp=>?_) fun hsp=>?_)
     refine WP_count [(18,18),(21,21),(67,78)] 0 L.C.length (Nat.zero_le _) (fun _ i fr H=>fr 67=.int .i64 (i:Int)∧Ext J H∧fr 15=.int .i64 0∧∃ w,fr 18=w∧Own encI 3 J.length H w (fitN L j i)) ?_ ?_ ?_
     ·exact ⟨by (simp (disch:=first|exact dq|fail) only [go_sem,↓reduceIte,Int.natCast_zero];first|done|rfl),.refl,by simp (disch:=first|exact dq|fail) only [go_sem,↓reduceIte],.slice none 0 0,by simp (disch:=first|exact dq|fail) only [go_sem,↓reduceIte,kZ18],Own.nil⟩
     ·rintro i fr H hi0 hi hA1 ⟨r67,xH,r15,w,r18,hW⟩
      have q1:=hA1 1 rfl
      have q2:=hA1 2 rfl
      have q3:=hA1 3 rfl
      have q5:=hA1 5 rfl
      have q9:=hA1 9 rfl
      have q10:=hA1 10 rfl
      have q11:=hA1 11 rfl
      have q12:=hA1 12 rfl
      have q13:=hA1 13 rfl
      have q15:=hA1 15 rfl
      have q16:=hA1 16 rfl
      have q17:=hA1 17 rfl
      have q19:=hA1 19 rfl
      have q20:=hA1 20 rfl
      have q66:=hA1 66 rfl
      try simp (disch:=first|exact dq|fail) only [go_sem,↓reduceIte,kZ1,kZ2,kZ3,kZ5,kZ9,kZ11,kZ12,kZ13,kZ15,kZ16,kZ17,kZ19,kZ20] at q1 q2 q3 q5 q9 q10 q11 q12 q13 q15 q16 q17 q19 q20 q66
      have hlt:((i:Int)<(L.C.length:Int))=True:=eq_true (by omega)
      have ow:=hW.one
      have lH:=xH.len
      have gTH:=xH.get gTJ
      have hft:=fun base=>run_rfits (base:=base) (p:=j) (aT4.ext (xJ.trans xH)) hok hi
      rw [← ej] at hft
      have hs:=fitN_succ (L:=L) (p:=j) (k:=i)
      have hfl:=fitN_len (L:=L) (p:=j) (k:=i)
      cases wv:fitB L j i with
      | true =>
       rw [wv] at hft hs
       rw [if_pos rfl] at hs
       obtain ⟨w',K2,ea,oW,lW,eW,oneW,kW⟩:=OwnE.snocI (base:=h.length) (x:=(i:Int)) (.inl hW) (by omega) lH (by omega)
       have hsp:=@Nat.succ_ne_zero;repeat' (first|simp (disch:=first|exact dq|fail) only [go_sem,↓reduceIte,hsp,r67,r15,r18,q1,q2,q3,q5,q9,q10,q11,q12,q13,q15,q16,q17,q19,q20,q66,hlt,gTH,hft,ea]|refine WP_drw ?_|refine cnd_intro (fun hsp=>?_) fun hsp=>?_)
       exact ⟨agq,by omega,eW _ (Nat.le_refl _) xH,w',rfl,by rw [hs];exact oW⟩
      | false =>
       rw [wv] at hft hs
       rw [if_neg (by decide),List.append_nil] at hs
       have hsp:=@Nat.succ_ne_zero;repeat' (first|simp (disch:=first|exact dq|fail) only [go_sem,↓reduceIte,hsp,r67,r15,r18,q1,q2,q3,q5,q9,q10,q11,q12,q13,q15,q16,q17,q19,q20,q66,hlt,gTH,hft]|refine WP_drw ?_|refine cnd_intro (fun hsp=>?_) fun hsp=>?_)
       exact ⟨agq,by omega,xH,w,rfl,by rw [hs];exact hW⟩
     ·rintro fr H hA1 ⟨r67,xH,r15,w,r18,hW⟩
      have q1:=hA1 1 rfl
      have q2:=hA1 2 rfl
      have q3:=hA1 3 rfl
      have q5:=hA1 5 rfl
      have q9:=hA1 9 rfl
      have q10:=hA1 10 rfl
      have q11:=hA1 11 rfl
      have q12:=hA1 12 rfl
      have q13:=hA1 13 rfl
      have q15:=hA1 15 rfl
      have q16:=hA1 16 rfl
      have q17:=hA1 17 rfl
      have q19:=hA1 19 rfl
      have q20:=hA1 20 rfl
      have q66:=hA1 66 rfl
      try simp (disch:=first|exact dq|fail) only [go_sem,↓reduceIte,kZ1,kZ2,kZ3,kZ5,kZ9,kZ11,kZ12,kZ13,kZ15,kZ16,kZ17,kZ19,kZ20] at q1 q2 q3 q5 q9 q10 q11 q12 q13 q15 q16 q17 q19 q20 q66
      have hlt:((L.C.length:Int)<(L.C.length:Int))=False:=eq_false (by omega)
      have hsp:=@Nat.succ_ne_zero;repeat' (first|simp (disch:=first|exact dq|fail) only [go_sem,↓reduceIte,hsp,r67,r15,r18,q1,q2,q3,q5,q9,q10,q11,q12,q13,q15,q16,q17,q19,q20,q66,hlt]|refine WP_drw ?_|refine cnd_intro (fun hsp=>?_) fun hsp=>?_)
      exact ⟨agq,xH,w,rfl,hW.low (Nat.zero_le _)⟩
    ·have tb:(p<(L.C.length:Int))=False:=eq_false q1
     have r:fitE L p=([],1):=by unfold fitE;rw [if_neg (by simp [c]),if_pos (by omega)]
     rw [r]
     have hsp:=@Nat.succ_ne_zero;repeat' (first|simp (disch:=first|exact dq|fail) only [go_sem,↓reduceIte,hsp,kZ1,kZ2,kZ3,kZ5,kZ9,kZ11,kZ12,kZ13,kZ15,kZ16,kZ17,kZ18,kZ19,kZ20,ta,tb,gcJ,hlc]|refine WP_drw ?_|refine cnd_intro (fun hsp=>?_) fun hsp=>?_)
     exact ⟨agq,.refl,_,rfl,Own.nil⟩
   ·have ta:(p ≥ 0)=False:=eq_false q0
    have r:fitE L p=([],1):=by unfold fitE;rw [if_neg (by simp [c]),if_pos (by omega)]
    rw [r]
    have hsp:=@Nat.succ_ne_zero;repeat' (first|simp (disch:=first|exact dq|fail) only [go_sem,↓reduceIte,hsp,kZ1,kZ2,kZ3,kZ5,kZ9,kZ11,kZ12,kZ13,kZ15,kZ16,kZ17,kZ18,kZ19,kZ20,ta]|refine WP_drw ?_|refine cnd_intro (fun hsp=>?_) fun hsp=>?_)
    exact ⟨agq,.refl,_,rfl,Own.nil⟩
  ·rintro fr1 K1 ⟨hA1,xK1,y15,x18,y18,o18⟩
   have y1:=hA1 1 rfl
   have y2:=hA1 2 rfl
   have y3:=hA1 3 rfl
   have y5:=hA1 5 rfl
   have y9:=hA1 9 rfl
   have y11:=hA1 11 rfl
   have y12:=hA1 12 rfl
   have y13:=hA1 13 rfl
   have y16:=hA1 16 rfl
   have y17:=hA1 17 rfl
   have y19:=hA1 19 rfl
   have y20:=hA1 20 rfl
   try simp (disch:=first|exact dq|fail) only [go_sem,↓reduceIte,kZ1,kZ2,kZ3,kZ5,kZ9,kZ11,kZ12,kZ13,kZ16,kZ17,kZ19,kZ20] at y1 y2 y3 y5 y9 y11 y12 y13 y16 y17 y19 y20
   have xG1:=xJ.trans xK1
   have lK1:=xK1.len
   have gc1:=xG1.get gc4
   have hlc1:=lenI (hC.ext (xh4.trans xG1))
   have gcU:=gc1
   unfold lacB at gc1
   have hrd:=fun base=>run_rordered (base:=base) (h:=K1) (n:=L.C.length) (hO.ext (xh4.trans xG1)) (by omega)
   have one18:=o18.one
   have hsp:=@Nat.succ_ne_zero;repeat' (first|simp (disch:=first|exact dq|fail) only [go_sem,↓reduceIte,hsp,y1,y2,y3,y5,y9,y11,y12,y13,y16,y17,y19,y20,y15,y18,gc1,hlc1,hrd]|refine WP_drw ?_|refine cnd_intro (fun hsp=>?_) fun hsp=>?_)
   refine WPS_restF fun Y eY=>?_
   rw [← WP_seq]
   have kY1:=congrFun eY 1
   have kY2:=congrFun eY 2
   have kY3:=congrFun eY 3
   have kY5:=congrFun eY 5
   have kY9:=congrFun eY 9
   have kY11:=congrFun eY 11
   have kY12:=congrFun eY 12
   have kY13:=congrFun eY 13
   have kY15:=congrFun eY 15
   have kY16:=congrFun eY 16
   have kY17:=congrFun eY 17
   have kY18:=congrFun eY 18
   have kY19:=congrFun eY 19
   have kY20:=congrFun eY 20
   try simp (disch:=first|exact dq|fail) only [go_sem,↓reduceIte,y1,y2,y3,y5,y9,y11,y12,y13,y15,y16,y17,y18,y19,y20] at kY1 kY2 kY3 kY5 kY9 kY11 kY12 kY13 kY15 kY16 kY17 kY18 kY19 kY20
   clear eY
   refine WP_meet (fun fr h'=>Agree [(16,16),(19,19),(22,22),(84,110)] fr Y∧Ext K1 h'∧fr 16=.int .i64 (wvE L o n).2∧∃ x,fr 19=x∧Own encI 3 0 h' x (wvE L o n).1) ?_ ?_
   ·rw [WP_seq,WP_region]
    by_cases co:ordL o L.C.length=0
    ·have u0:(ordL o L.C.length=0)=True:=eq_true co
     have hoo:=ordL_iff.1 co
     have hl0:lcdE L o=0:=by unfold lcdE;rw [if_pos c];exact co
     by_cases q0:n<0
     ·have u1:(n<0)=True:=eq_true q0
      have r:wvE L o n=([],3):=by unfold wvE;rw [if_pos hl0,if_neg (by omega)]
      rw [r]
      have hsp:=@Nat.succ_ne_zero;repeat' (first|simp (disch:=first|exact dq|fail) only [go_sem,↓reduceIte,hsp,kY1,kY2,kY3,kY5,kY9,kY11,kY12,kY13,kY15,kY16,kY17,kY18,kY19,kY20,u0,u1]|refine WP_drw ?_|refine cnd_intro (fun hsp=>?_) fun hsp=>?_)
      exact ⟨agq,.refl,_,rfl,Own.nil⟩
     ·have u1:(n<0)=False:=eq_false q0
      by_cases q9:n > 999
      ·have u2:(n > 999)=True:=eq_true q9
       have r:wvE L o n=([],3):=by unfold wvE;rw [if_pos hl0,if_neg (by omega)]
       rw [r]
       have hsp:=@Nat.succ_ne_zero;repeat' (first|simp (disch:=first|exact dq|fail) only [go_sem,↓reduceIte,hsp,kY1,kY2,kY3,kY5,kY9,kY11,kY12,kY13,kY15,kY16,kY17,kY18,kY19,kY20,u0,u1,u2]|refine WP_drw ?_|refine cnd_intro (fun hsp=>?_) fun hsp=>?_)
       exact ⟨agq,.refl,_,rfl,Own.nil⟩
      ·have u2:(n > 999)=False:=eq_false q9
       have r:wvE L o n=(wvL L o n.toNat,0):=by unfold wvE;rw [if_pos hl0,if_pos (by omega)]
       rw [r]
       have hsp:=@Nat.succ_ne_zero;repeat' (first|simp (disch:=first|exact dq|fail) only [go_sem,↓reduceIte,hsp,kY1,kY2,kY3,kY5,kY9,kY11,kY12,kY13,kY15,kY16,kY17,kY18,kY19,kY20,u0,u1,u2]|refine WP_drw ?_|refine cnd_intro (fun hsp=>?_) fun hsp=>?_)
       obtain ⟨m,em⟩:=Int.eq_ofNat_of_zero_le (show 0≤n by omega)
       have emt:n.toNat=m:=by omega
       rw [emt]
       refine WP_count [(19,19),(22,22),(93,110)] 0 m (Nat.zero_le _) (fun _ i fr H=>fr 93=.int .i64 (i:Int)∧Ext K1 H∧∃ w,fr 19=w∧Own encI 3 K1.length H w (wvL L o i)) ?_ ?_ ?_
       ·exact ⟨by (simp (disch:=first|exact dq|fail) only [go_sem,↓reduceIte,Int.natCast_zero];first|done|rfl),.refl,.slice none 0 0,by simp (disch:=first|exact dq|fail) only [go_sem,↓reduceIte,kY19],Own.nil⟩
       ·rintro i fr H hi0 hi hA2 ⟨r93,xH,w,r19,hW⟩
        have q1:=hA2 1 rfl
        have q2:=hA2 2 rfl
        have q3:=hA2 3 rfl
        have q5:=hA2 5 rfl
        have q9:=hA2 9 rfl
        have q10:=hA2 10 rfl
        have q11:=hA2 11 rfl
        have q13:=hA2 13 rfl
        have q15:=hA2 15 rfl
        have q16:=hA2 16 rfl
        have q17:=hA2 17 rfl
        have q18:=hA2 18 rfl
        have q20:=hA2 20 rfl
        have q92:=hA2 92 rfl
        try simp (disch:=first|exact dq|fail) only [go_sem,↓reduceIte,kY1,kY2,kY3,kY5,kY9,kY11,kY13,kY15,kY16,kY17,kY18,kY20] at q1 q2 q3 q5 q9 q10 q11 q13 q15 q16 q17 q18 q20 q92
        have hlt:((i:Int)<n)=True:=eq_true (by omega)
        have ow:=hW.one
        have lH:=xH.len
        have xGH:=xG1.trans xH
        have gH:=xH.get gc1
        have iO:=hO.ext (xh4.trans xGH)
        have iC:=hC.ext (xh4.trans xGH)
        have hol:=lenI iO
        have hm:=hoo.1
        have hrem:=remN (x:=(i:Int)) (n:=o.length) (by omega) (by omega)
        rw [Int.toNat_natCast] at hrem
        obtain ⟨j,ej⟩:∃ j,j=i % o.length:=⟨_,rfl⟩
        rw [← ej] at hrem
        have hj:j<o.length:=by rw [ej];exact Nat.mod_lt _ (by omega)
        have aj:=adrI (i:=(j:Int)) (by omega) iO (by omega)
        rw [Int.toNat_natCast] at aj
        have lj:=loadI iO hj
        have hk:=hoo.2.1 _ (getD_mem hj)
        obtain ⟨k,ek⟩:=Int.eq_ofNat_of_zero_le hk.1
        rw [ek] at lj hk
        have ak:=adrI (i:=(k:Int)) (by omega) iC (by omega)
        rw [Int.toNat_natCast] at ak
        have lk:=loadI iC (i:=k) (by omega)
        obtain ⟨w',K2,ea,oW,lW,eW,oneW,kW⟩:=OwnE.snocI (base:=h.length) (x:=L.C.getD k 0) (.inl hW) (by omega) lH (by rw [wvL_len];omega)
        have hs:wvL L o (i+1)=wvL L o i++[L.C.getD k 0]:=by rw [wvL_succ,← ej,ek,Int.toNat_natCast]
        have hsp:=@Nat.succ_ne_zero;repeat' (first|simp (disch:=first|exact dq|fail) only [go_sem,↓reduceIte,hsp,r93,r19,q1,q2,q3,q5,q9,q10,q11,q13,q15,q16,q17,q18,q20,q92,hlt,gH,hol,hrem,aj,lj,ak,lk,ea]|refine WP_drw ?_|refine cnd_intro (fun hsp=>?_) fun hsp=>?_)
        exact ⟨agq,by omega,eW _ (Nat.le_refl _) xH,w',rfl,by rw [hs];exact oW⟩
       ·rintro fr H hA2 ⟨r93,xH,w,r19,hW⟩
        have q1:=hA2 1 rfl
        have q2:=hA2 2 rfl
        have q3:=hA2 3 rfl
        have q5:=hA2 5 rfl
        have q9:=hA2 9 rfl
        have q10:=hA2 10 rfl
        have q11:=hA2 11 rfl
        have q13:=hA2 13 rfl
        have q15:=hA2 15 rfl
        have q16:=hA2 16 rfl
        have q17:=hA2 17 rfl
        have q18:=hA2 18 rfl
        have q20:=hA2 20 rfl
        have q92:=hA2 92 rfl
        try simp (disch:=first|exact dq|fail) only [go_sem,↓reduceIte,kY1,kY2,kY3,kY5,kY9,kY11,kY13,kY15,kY16,kY17,kY18,kY20] at q1 q2 q3 q5 q9 q10 q11 q13 q15 q16 q17 q18 q20 q92
        have hlt:((m:Int)<n)=False:=eq_false (by omega)
        have ow:=hW.one
        have hsp:=@Nat.succ_ne_zero;repeat' (first|simp (disch:=first|exact dq|fail) only [go_sem,↓reduceIte,hsp,r93,r19,q1,q2,q3,q5,q9,q10,q11,q13,q15,q16,q17,q18,q20,q92,hlt]|refine WP_drw ?_|refine cnd_intro (fun hsp=>?_) fun hsp=>?_)
        exact ⟨agq,xH,co,w,rfl,hW.low (Nat.zero_le _)⟩
    ·have u0:(ordL o L.C.length=0)=False:=eq_false co
     have r:wvE L o n=([],ordL o L.C.length):=by
      have hl0:lcdE L o=ordL o L.C.length:=by unfold lcdE;rw [if_pos c]
      unfold wvE;rw [hl0,if_neg co]
     rw [r]
     have hsp:=@Nat.succ_ne_zero;repeat' (first|simp (disch:=first|exact dq|fail) only [go_sem,↓reduceIte,hsp,kY1,kY2,kY3,kY5,kY9,kY11,kY12,kY13,kY15,kY16,kY17,kY18,kY19,kY20,u0]|refine WP_drw ?_|refine cnd_intro (fun hsp=>?_) fun hsp=>?_)
     exact ⟨agq,.refl,_,rfl,Own.nil⟩
   ·rintro fr2 K2 ⟨hA2,xK2,kk16,x19,kk19,o19⟩
    have kk1:=hA2 1 rfl
    have kk2:=hA2 2 rfl
    have kk3:=hA2 3 rfl
    have kk5:=hA2 5 rfl
    have kk9:=hA2 9 rfl
    have kk11:=hA2 11 rfl
    have kk12:=hA2 12 rfl
    have kk13:=hA2 13 rfl
    have kk15:=hA2 15 rfl
    have kk17:=hA2 17 rfl
    have kk18:=hA2 18 rfl
    have kk20:=hA2 20 rfl
    try simp (disch:=first|exact dq|fail) only [go_sem,↓reduceIte,kY1,kY2,kY3,kY5,kY9,kY11,kY12,kY13,kY15,kY17,kY18,kY20] at kk1 kk2 kk3 kk5 kk9 kk11 kk12 kk13 kk15 kk17 kk18 kk20
    have xG2:=xG1.trans xK2
    have lK2:=xK2.len
    have one19:=o19.one
    have o18':=o18.ext xK2
    have gb2:K2[G4.length]?=some (lacB 0 (.slice none 0 0) (.slice none 0 0)):=(xK1.trans xK2).get gbJ
    have gc2:=xG2.get gc4
    have gr2:=xG2.get gr4
    have hlr2:=((hR.ext (xh4.trans xG2))).len (P:=prog) Fc.el23
    have gcU2:=gc2
    unfold lacB at gc2
    unfold rwB at gr2
    have hsp:=@Nat.succ_ne_zero;repeat' (first|simp (disch:=first|exact dq|fail) only [go_sem,↓reduceIte,hsp,kk1,kk2,kk3,kk5,kk9,kk11,kk12,kk13,kk15,kk17,kk18,kk20,kk16,kk19,gc2]|refine WP_drw ?_|refine cnd_intro (fun hsp=>?_) fun hsp=>?_)
    refine WPS_restF fun X eX=>?_
    rw [← WP_seq]
    have kX1:=congrFun eX 1
    have kX2:=congrFun eX 2
    have kX3:=congrFun eX 3
    have kX5:=congrFun eX 5
    have kX9:=congrFun eX 9
    have kX11:=congrFun eX 11
    have kX12:=congrFun eX 12
    have kX13:=congrFun eX 13
    have kX15:=congrFun eX 15
    have kX16:=congrFun eX 16
    have kX17:=congrFun eX 17
    have kX18:=congrFun eX 18
    have kX19:=congrFun eX 19
    have kX20:=congrFun eX 20
    try simp (disch:=first|exact dq|fail) only [go_sem,↓reduceIte,kk1,kk2,kk3,kk5,kk9,kk11,kk12,kk13,kk15,kk16,kk17,kk18,kk19,kk20] at kX1 kX2 kX3 kX5 kX9 kX11 kX12 kX13 kX15 kX16 kX17 kX18 kX19 kX20
    clear eX
    refine WP_meet (fun fr h'=>Agree [(17,17),(23,23),(111,134)] fr X∧Ext G4 h'∧fr 17=.int .i64 (seeE L r).2∧Own encI 3 0 h' x18 (fitE L p).1∧Own encI 3 0 h' x19 (wvE L o n).1∧∃ T' cb rb,h'[G4.length]?=some (lacB T' cb rb)∧OwnC 0 h' (.agg [.int .i64 T',cb,rb]) (seeE L r).1) ?_ ?_
    ·rw [WP_seq,WP_region]
     by_cases q0:L.R.length<12
     ·have u0:((L.R.length:Int)<12)=True:=eq_true (by omega)
      obtain ⟨_,M1,e7,y1,aT3,cv3,rw3,rfl,hC3,oT3⟩:=run_theirs (base:=h.length) (h:=K2) (by omega) (hL.ext (xh4.trans xG2)) (by omega)
      have m1:=y1.len
      have oc3:=hC3.one
      have or3:=oT3.one
      obtain ⟨M2,eM2⟩:∃ M2,M2=M1++[rcB L.T cv3 rw3]:=⟨_,rfl⟩
      have y2:Ext M1 M2:=by rw [eM2];exact .app .refl
      have m2:=y2.len
      have g3:M2[M1.length]?=some (rcB L.T cv3 rw3):=by rw [eM2];exact get_eq rfl
      have grM:=(y1.trans y2).get gr2
      obtain ⟨w3,M3,ea,oW3,lW3,kE3,ow3,kp3⟩:=snocRR (base:=h.length) (r:=r) (oT3.ext y2) (by omega) (by omega) (by omega)
      have y3:=kE3 _ (Nat.le_refl _) (y1.trans y2)
      have g3':=kp3.box g3
      obtain ⟨M4,eM4⟩:∃ M4,M4=M3.set M1.length (rcB L.T cv3 w3):=⟨_,rfl⟩
      have y4:Ext K2 M4:=by rw [eM4];exact y3.set (by omega)
      have m4:M4.length=M3.length:=by rw [eM4,List.length_set]
      have g4:M4[M1.length]?=some (rcB L.T cv3 w3):=by rw [eM4,List.getElem?_set_self (lt_of_get g3')]
      have oW4:Own encR 90 K2.length M4 w3 (L.R++[r]):=by rw [eM4];exact oW3.setBox g3'
      have aM4:LacAt M4 (.agg [.int .i64 L.T,cv3,w3]) (moreR L r):=⟨cv3,w3,rfl,hC3.ext y4,oW4.rows (by simp;omega)⟩
      have hck3:=fun base=>run_rcheck (base:=base) aM4 (show (moreR L r).C.length≤_ from (by omega:L.C.length≤_)) (by simp [moreR];omega)
      have gcM4:=y4.get gcU2
      unfold rcB at eM2 g3 g3' eM4 g4
      unfold lacB at gcM4
      by_cases d:chkL (moreR L r)=0
      ·have re:seeE L r=(moreR L r,0):=by unfold seeE;rw [if_pos c,if_neg (by omega),if_pos d]
       rw [re]
       rw [d] at hck3
       obtain ⟨_,M5,e8,y5,cw5,rw5,rfl,oC5,oR5⟩:=run_own (base:=h.length) (h:=M4) (by have:=y4.len;omega) (hL.ext ((xh4.trans xG2).trans y4)) (by omega) (by omega)
       have m5:=y5.len
       have lM4:=y4.len
       have oc5:=oC5.one
       have or5:=oR5.one
       have y45:=y4.trans y5
       have g5:=y45.get gb2
       obtain ⟨M6,eM6⟩:∃ M6,M6=M5.set G4.length (lacB L.T cw5 rw5):=⟨_,rfl⟩
       have m6:M6.length=M5.length:=by rw [eM6,List.length_set]
       have y6:Ext G4 M6:=by rw [eM6];exact (xG2.trans y45).set (Nat.le_refl _)
       have g6:M6[G4.length]?=some (lacB L.T cw5 rw5):=by rw [eM6,List.getElem?_set_self (lt_of_get g5)]
       have gr6:=y6.get gr4
       have oC6:OwnE encI 3 M4.length M6 cw5 L.C:=by rw [eM6];exact oC5.setBox g5
       have oR6:OwnE encR 28 M4.length M6 rw5 L.R:=by rw [eM6];exact oR5.setBox g5
       have a6:Own encI 3 0 M6 x18 (fitE L p).1:=by rw [eM6];exact (o18'.ext y45).setBox g5
       have b6:Own encI 3 0 M6 x19 (wvE L o n).1:=by rw [eM6];exact (o19.ext y45).setBox g5
       obtain ⟨w7,M7,eb,oW7,lW7,kE7,ow7,kp7⟩:=snocR (base:=h.length) (r:=r) oR6 (by omega) (by omega) (by omega)
       have y7:=kE7 G4 (by omega) y6
       have g7:=kp7.box g6
       obtain ⟨M8,eM8⟩:∃ M8,M8=M7.set G4.length (lacB L.T cw5 w7):=⟨_,rfl⟩
       have y8:Ext G4 M8:=by rw [eM8];exact y7.set (Nat.le_refl _)
       have g8:M8[G4.length]?=some (lacB L.T cw5 w7):=by rw [eM8,List.getElem?_set_self (lt_of_get g7)]
       have a8:Own encI 3 0 M8 x18 (fitE L p).1:=by rw [eM8];exact (kp7.own a6 (by decide)).setBox g7
       have b8:Own encI 3 0 M8 x19 (wvE L o n).1:=by rw [eM8];exact (kp7.own b6 (by decide)).setBox g7
       have c8:OwnC 0 M8 (.agg [.int .i64 L.T,cw5,w7]) (moreR L r):=by
        refine ⟨cw5,w7,rfl,?_,?_⟩
        ·rw [eM8];exact ((kp7.ownE oC6 (by decide)).setBox g7).low (Nat.zero_le _)
        ·rw [eM8];exact (OwnE.setBox (.inl oW7) g7).low (Nat.zero_le _)
       have g8':=g8
       unfold lacB at g5 eM6 g6 g7 eM8
       unfold rwB at gr6
       have gb2':=gb2
       unfold lacB at gb2'
       have hsp:=@Nat.succ_ne_zero;repeat' (first|simp (disch:=first|exact dq|fail) only [go_sem,↓reduceIte,hsp,kX1,kX2,kX3,kX5,kX9,kX11,kX12,kX13,kX15,kX16,kX17,kX18,kX19,kX20,hlr2,u0,gc2,e7,← eM2,g3,grM,bsRR1,ea,g3',← eM4,g4,hck3,eq_self,gcM4,e8,g5,← eM6,g6,gr6,bsR1,eb,g7,← eM8]|refine WP_drw ?_|refine cnd_intro (fun hsp=>?_) fun hsp=>?_)
       exact ⟨agq,y8,a8,b8,_,_,_,g8',c8⟩
      ·have u1:(chkL (moreR L r)=0)=False:=eq_false d
       have re:seeE L r=(lac0,chkL (moreR L r)):=by unfold seeE;rw [if_pos c,if_neg (by omega),if_neg d]
       rw [re]
       have hsp:=@Nat.succ_ne_zero;repeat' (first|simp (disch:=first|exact dq|fail) only [go_sem,↓reduceIte,hsp,kX1,kX2,kX3,kX5,kX9,kX11,kX12,kX13,kX15,kX16,kX17,kX18,kX19,kX20,hlr2,u0,gc2,e7,← eM2,g3,grM,bsRR1,ea,g3',← eM4,g4,hck3,u1]|refine WP_drw ?_|refine cnd_intro (fun hsp=>?_) fun hsp=>?_)
       exact ⟨agq,xG2.trans y4,o18'.ext y4,o19.ext y4,_,_,_,y4.get gb2,_,_,rfl,.inl Own.nil,.inl Own.nil⟩
     ·have u0:((L.R.length:Int)<12)=False:=eq_false (by omega)
      have re:seeE L r=(lac0,9):=by unfold seeE;rw [if_pos c,if_pos (by have:=hok.m;omega)]
      rw [re]
      have hsp:=@Nat.succ_ne_zero;repeat' (first|simp (disch:=first|exact dq|fail) only [go_sem,↓reduceIte,hsp,kX1,kX2,kX3,kX5,kX9,kX11,kX12,kX13,kX15,kX16,kX17,kX18,kX19,kX20,hlr2,u0,gc2]|refine WP_drw ?_|refine cnd_intro (fun hsp=>?_) fun hsp=>?_)
      exact ⟨agq,xG2,o18',o19,_,_,_,gb2,_,_,rfl,.inl Own.nil,.inl Own.nil⟩
    ·rintro fr3 K ⟨hA3,xK,v17,oA18,oA19,T',cb,rb,gb,aB⟩
     have v1:=hA3 1 rfl
     have v2:=hA3 2 rfl
     have v3:=hA3 3 rfl
     have v5:=hA3 5 rfl
     have v9:=hA3 9 rfl
     have v11:=hA3 11 rfl
     have v12:=hA3 12 rfl
     have v13:=hA3 13 rfl
     have v15:=hA3 15 rfl
     have v16:=hA3 16 rfl
     have v18:=hA3 18 rfl
     have v19:=hA3 19 rfl
     have v20:=hA3 20 rfl
     try simp (disch:=first|exact dq|fail) only [go_sem,↓reduceIte,kX1,kX2,kX3,kX5,kX9,kX11,kX12,kX13,kX15,kX16,kX18,kX19,kX20] at v1 v2 v3 v5 v9 v11 v12 v13 v15 v16 v18 v19 v20
     have ocb:One cb:=by
      obtain ⟨_,_,q,q2,_⟩:=id aB
      simp only [AVal.agg.injEq,List.cons.injEq,and_true] at q
      rw [q.2.1];exact q2.one
     have orb:One rb:=by
      obtain ⟨_,_,q,_,q2⟩:=id aB
      simp only [AVal.agg.injEq,List.cons.injEq,and_true] at q
      rw [q.2.2];exact q2.one
     have lK:=xK.len
     have gO:=xK.get gO4
     have gc:=xK.get gc4
     have gr:=xK.get gr4
     have aO:=aO4.ext xK
     have iM:=iM4.ext xK
     obtain ⟨_,Z1,c1,z1,fw,rfl,oF⟩:=run_Fit (base:=h.length) (p:=p) (by omega) aO
     have ofw:=oF.one
     have lz1:=z1.len
     obtain ⟨_,Z2,c2,z2,ww,rfl,oW⟩:=run_Weave (base:=h.length) (n:=n) (by omega) (aO.ext z1) (iM.ext z1)
     have oww:=oW.one
     have lz2:=z2.len
     have xZ2:=xK.trans (z1.trans z2)
     obtain ⟨_,Z3,c3,z3,_,rfl,sC,sR,rfl,oSC,oSR⟩:=run_See (base:=h.length) (r:=r) (by omega) (aO.ext (z1.trans z2))
     have osc:=oSC.one
     have osr:=oSR.one
     have lz3:=z3.len
     obtain ⟨T2,eT2⟩:∃ T2,T2=(seeE L r).1.T:=⟨_,rfl⟩
     obtain ⟨Z4,eZ4⟩:∃ Z4,Z4=Z3++[lacB (seeE L r).1.T sC sR]:=⟨_,rfl⟩
     have z4:Ext Z3 Z4:=by rw [eZ4];exact .app .refl
     have gS4:Z4[Z3.length]?=some (lacB (seeE L r).1.T sC sR):=by rw [eZ4];exact get_eq rfl
     have zK4:=((z1.trans z2).trans z3).trans z4
     have x24:=z3.trans z4
     have xZ4:=xK.trans zK4
     have i1:=own_ints (oF.ext ((z2.trans z3).trans z4)) fitE_small
     have i2:=own_ints (oA18.ext zK4) fitE_small
     have i3:=own_ints (oW.ext (z3.trans z4)) wvE_small
     have i4:=own_ints (oA19.ext zK4) wvE_small
     have w1:=fun base=>run_eqI (base:=base) i1 i2
     have w2:=fun base=>run_eqI (base:=base) i3 i4
     rw [decide_eq_true rfl] at w1 w2
     have hfw:=seeE_few (L:=L) (r:=r) (by omega)
     have aS:LacAt Z4 (.agg [.int .i64 (seeE L r).1.T,sC,sR]) (seeE L r).1:=OwnC.at (b:=Z2.length) ⟨sC,sR,rfl,oSC.ext z4,oSR.ext z4⟩ hfw.1 (by omega)
     have aB4:=(aB.at hfw.1 (by omega)).ext zK4
     have w3:=fun base=>run_same (base:=base) aS aB4 (by omega)
     have gb4:=zK4.get gb
     have gO1:=z1.get gO
     have gO2:=z2.get gO1
     have gr2:=(z1.trans z2).get gr
     obtain ⟨Z5,e5,l5,k5,u5,kp5⟩:=clear_own (base:=h.length) (y:=(0:Int)) (oSC.ext z4) Fc.el22 encI_sc (by omega)
     have gS5:=kp5.box gS4
     obtain ⟨Z6,e6,l6,k6,u6,kp6⟩:=clear_own (base:=h.length) (y:=((0,0,0):Rw3)) (kp5.ownE (oSR.ext z4) (by decide)) Fc.el23 encR_sc (by omega)
     have x26:Ext Z2 Z6:=k6 _ (Nat.le_refl _) (k5 _ (Nat.le_refl _) x24)
     have x46:Ext G4 Z6:=xZ2.trans x26
     have gO6:=x46.get gO4
     have gc6:=x46.get gc4
     have xh:=xh4.trans x46
     have w4:=fun base=>run_same (base:=base) (aO4.ext x46) (hL.ext xh) (by omega)
     have w5:=fun base=>run_eqI (base:=base) (iM4.ext x46) (hO.ext xh)
     rw [decide_eq_true rfl] at w5
     have w6:=fun base=>run_awake (base:=base) (h:=Z6)
     unfold lacB at gO gO1 gO2 gb4 eZ4 gS4 gS5 gO6 gc6
     unfold rwB at gr2
     have hsp:=@Nat.succ_ne_zero;repeat' (first|simp (disch:=first|exact dq|fail) only [go_sem,↓reduceIte,hsp,v1,v2,v3,v5,v9,v11,v12,v13,v15,v16,v18,v19,v20,v17,gO,c1,gO1,c2,gO2,gr2,c3,← eZ4,eq_self,not_true,decide_false,w1,w2,gS4,gb4,w3,e5,gS5,e6,gO6,gc6,w4,w5,w6]|refine WP_drw ?_|refine cnd_intro (fun hsp=>?_) fun hsp=>?_)
     exact fB rfl xh
 ·have tu:(chkL L=0)=False:=eq_false c
  have fv:fitE L p=([],chkL L):=by unfold fitE;rw [if_pos c]
  have wv:wvE L o n=([],chkL L):=by
   have hl0:lcdE L o=chkL L:=by unfold lcdE;rw [if_neg c]
   unfold wvE;rw [hl0,if_neg c]
  have sv:seeE L r=(lac0,chkL L):=by unfold seeE;rw [if_neg c]
  have fv2:(fitE L p).2=chkL L:=by rw [fv]
  have wv2:(wvE L o n).2=chkL L:=by rw [wv]
  have sv2:(seeE L r).2=chkL L:=by rw [sv]
  obtain ⟨K,eK⟩:∃ K,K=J:=⟨_,rfl⟩
  rw [← eK] at eJ
  have xK:Ext G4 K:=by rw [eK];exact xJ
  obtain ⟨x18,e18⟩:∃ x,x=AVal.slice none 0 0:=⟨_,rfl⟩
  have gb:K[G4.length]?=some (lacB 0 (.slice none 0 0) (.slice none 0 0)):=by rw [eK];exact gbJ
  have oA18:Own encI 3 0 K (.slice none 0 0) (fitE L p).1:=by rw [fv];exact Own.nil
  have oA19:Own encI 3 0 K (.slice none 0 0) (wvE L o n).1:=by rw [wv];exact Own.nil
  have aB:OwnC 0 K (.agg [.int .i64 0,.slice none 0 0,.slice none 0 0]) (seeE L r).1:=by rw [sv];exact ⟨_,_,rfl,.inl Own.nil,.inl Own.nil⟩
  have lK:=xK.len
  have gO:=xK.get gO4
  have gc:=xK.get gc4
  have gr:=xK.get gr4
  have aO:=aO4.ext xK
  have iM:=iM4.ext xK
  obtain ⟨_,Z1,c1,z1,fw,rfl,oF⟩:=run_Fit (base:=h.length) (p:=p) (by omega) aO
  have ofw:=oF.one
  have lz1:=z1.len
  obtain ⟨_,Z2,c2,z2,ww,rfl,oW⟩:=run_Weave (base:=h.length) (n:=n) (by omega) (aO.ext z1) (iM.ext z1)
  have oww:=oW.one
  have lz2:=z2.len
  have xZ2:=xK.trans (z1.trans z2)
  obtain ⟨_,Z3,c3,z3,_,rfl,sC,sR,rfl,oSC,oSR⟩:=run_See (base:=h.length) (r:=r) (by omega) (aO.ext (z1.trans z2))
  have osc:=oSC.one
  have osr:=oSR.one
  have lz3:=z3.len
  obtain ⟨T2,eT2⟩:∃ T2,T2=(seeE L r).1.T:=⟨_,rfl⟩
  obtain ⟨Z4,eZ4⟩:∃ Z4,Z4=Z3++[lacB (seeE L r).1.T sC sR]:=⟨_,rfl⟩
  have z4:Ext Z3 Z4:=by rw [eZ4];exact .app .refl
  have gS4:Z4[Z3.length]?=some (lacB (seeE L r).1.T sC sR):=by rw [eZ4];exact get_eq rfl
  have zK4:=((z1.trans z2).trans z3).trans z4
  have x24:=z3.trans z4
  have xZ4:=xK.trans zK4
  have i1:=own_ints (oF.ext ((z2.trans z3).trans z4)) fitE_small
  have i2:=own_ints (oA18.ext zK4) fitE_small
  have i3:=own_ints (oW.ext (z3.trans z4)) wvE_small
  have i4:=own_ints (oA19.ext zK4) wvE_small
  have w1:=fun base=>run_eqI (base:=base) i1 i2
  have w2:=fun base=>run_eqI (base:=base) i3 i4
  rw [decide_eq_true rfl] at w1 w2
  have hfw:=seeE_few (L:=L) (r:=r) (by omega)
  have aS:LacAt Z4 (.agg [.int .i64 (seeE L r).1.T,sC,sR]) (seeE L r).1:=OwnC.at (b:=Z2.length) ⟨sC,sR,rfl,oSC.ext z4,oSR.ext z4⟩ hfw.1 (by omega)
  have aB4:=(aB.at hfw.1 (by omega)).ext zK4
  have w3:=fun base=>run_same (base:=base) aS aB4 (by omega)
  have gb4:=zK4.get gb
  have gO1:=z1.get gO
  have gO2:=z2.get gO1
  have gr2:=(z1.trans z2).get gr
  obtain ⟨Z5,e5,l5,k5,u5,kp5⟩:=clear_own (base:=h.length) (y:=(0:Int)) (oSC.ext z4) Fc.el22 encI_sc (by omega)
  have gS5:=kp5.box gS4
  obtain ⟨Z6,e6,l6,k6,u6,kp6⟩:=clear_own (base:=h.length) (y:=((0,0,0):Rw3)) (kp5.ownE (oSR.ext z4) (by decide)) Fc.el23 encR_sc (by omega)
  have x26:Ext Z2 Z6:=k6 _ (Nat.le_refl _) (k5 _ (Nat.le_refl _) x24)
  have x46:Ext G4 Z6:=xZ2.trans x26
  have gO6:=x46.get gO4
  have gc6:=x46.get gc4
  have xh:=xh4.trans x46
  have w4:=fun base=>run_same (base:=base) (aO4.ext x46) (hL.ext xh) (by omega)
  have w5:=fun base=>run_eqI (base:=base) (iM4.ext x46) (hO.ext xh)
  rw [decide_eq_true rfl] at w5
  have w6:=fun base=>run_awake (base:=base) (h:=Z6)
  unfold lacB at gO gO1 gO2 gb4 eZ4 gS4 gS5 gO6 gc6
  unfold rwB at gr2
  have hsp:=@Nat.succ_ne_zero;repeat' (first|simp (disch:=first|exact dq|fail) only [go_sem,↓reduceIte,hsp,← eG0,g0',hg,hlo,t1,e1,g01,e2,e3,← eG4,gT4,gO4',hck,hck2,eq_self,not_true,decide_false,tu,← eJ,gO,c1,gO1,c2,gO2,gr2,c3,fv2,wv2,sv2,← eZ4,w1,w2,gS4,gb4,w3,e5,gS5,e6,gO6,gc6,w4,w5,w6]|refine WP_drw ?_|refine cnd_intro (fun hsp=>?_) fun hsp=>?_)
  exact fB rfl xh
end Go.AM
