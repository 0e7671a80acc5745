/-
  CutRibbons, walked.
-/
import Derived.Test.YtikgghhceolaeaaGreatU20
set_option linter.unusedSimpArgs false
set_option linter.unusedVariables false
namespace Go.AM
open Go.Proofs.Tryz
attribute [-go_sem] put_ne put_same
attribute [local go_sem ↓] put_if
def RibN (N:Nat) (H:Heap) (v:AVal):Prop:=∃ R,RibAt H v R∧R.F.length≤N∧R.W.length≤N
theorem RibN.ext {N:Nat} {G H:Heap} {v:AVal} (h:RibN N G v) (e:Ext G H):RibN N H v:=by
 obtain ⟨L,h1,h2⟩:=h
 exact ⟨L,h1.ext e,h2⟩
def CutV (_:Heap) (v:AVal):Prop:=∃ c:Ct,v=.agg [.int .i64 c.w,.int .i64 c.f,.bool c.j]
def IntV (_:Heap) (v:AVal):Prop:=∃ n:Int,v=.int .i64 n
set_option maxRecDepth 100000 in
set_option maxHeartbeats 8000000 in
theorem run_CutRibbons {base:Nat} {h:Heap} {v0 v1 v2:AVal} (hA0:RibN 1048576 h v0) (hc0:CutV h v1) (hi0:IntV h v2) :
  callL prog raw base (.fn 22 [] []) [v0,v1,v2] h=some (.bool true,h):=by
 obtain ⟨R,hA,-,-⟩:=hA0
 obtain ⟨⟨cw,cf,cj⟩,rfl⟩:=hc0
 obtain ⟨at_,rfl⟩:=hi0
 have hAA:=hA
 obtain ⟨fv,wv,rfl,hF,hW⟩:=hAA
 have o1:=hF.one
 have o2:=hW.one
 obtain ⟨G0,eG0⟩:∃ G0,G0=h++[ribB R.L fv wv]++[cutB ⟨cw,cf,cj⟩]:=⟨_,rfl⟩
 have x0:Ext h G0:=by rw [eG0];exact .app (.app .refl)
 have g0:G0[h.length]?=some (ribB R.L fv wv):=by rw [eG0];exact get_app (get_eq rfl)
 have gk0:G0[h.length+1]?=some (cutB ⟨cw,cf,cj⟩):=by rw [eG0];exact get_eq (by simp)
 have lG0:G0.length=h.length+2:=by rw [eG0];simp
 have hg:=fun base=>run_great (base:=base) (hA.ext x0)
 have haw:=fun base=>run_awake (base:=base) (h:=G0)
 unfold ribB cutB at eG0
 have g0':=g0
 unfold ribB at g0'
 refine callL_run func22 rfl rfl ?_
 by_cases cg:20<R.F.length ∨ 12<R.W.length
 ·rw [decide_eq_true cg] at hg
  have hsp:=@Nat.succ_ne_zero;repeat' (first|simp (disch:=first|exact dq|fail) only [go_sem,↓reduceIte,hsp,← eG0,g0',hg,haw]|refine WP_drw ?_|refine cnd_intro (fun hsp=>?_) fun hsp=>?_)
  exact fB rfl x0
 ·rw [decide_eq_false cg] at hg
  obtain ⟨_,G1,e1,x1,fw,ww,rfl,oF,oW⟩:=run_own (base:=h.length) (h:=G0) (by omega) (hA.ext x0) (by omega) (by omega)
  have l1:=x1.len
  obtain ⟨_,G2,e2,x2,aT,fw2,ww2,rfl,of2,ow2⟩:=run_theirs (base:=h.length) (h:=G1) (by omega) (hA.ext (x0.trans x1)) (by omega) (by omega)
  have l2:=x2.len
  have ofw:=oF.one
  have oww:=oW.one
  obtain ⟨G4,eG4⟩:∃ G4,G4=G2++[ribB R.L fw ww]++[rrbB R.L fw2 ww2]:=⟨_,rfl⟩
  have x4:Ext G2 G4:=by rw [eG4];exact .app (.app .refl)
  have l4:G4.length=G2.length+2:=by rw [eG4];simp
  have gO4:G4[G2.length]?=some (ribB R.L fw ww):=by rw [eG4];exact get_app (get_eq rfl)
  have gT4:G4[G2.length+1]?=some (rrbB R.L fw2 ww2):=by rw [eG4];exact get_eq (by simp)
  have x14:=x2.trans x4
  have xh4:Ext h G4:=(x0.trans x1).trans x14
  have aO4:RibAt G4 (.agg [.int .i64 R.L,fw,ww]) R:=⟨fw,ww,rfl,(ownE_ints oF ⟨by omega,hF.1.2⟩).ext x14,(oW.rows (by omega)).ext x14⟩
  have aT4:RibAt G4 (.agg [.int .i64 R.L,fw2,ww2]) R:=aT.ext x4
  have gc4:G4[h.length]?=some (ribB R.L fv wv):=(x1.trans x14).get g0
  have gk4:G4[h.length+1]?=some (cutB ⟨cw,cf,cj⟩):=(x1.trans x14).get gk0
  have hck:=fun base=>run_rcheck (base:=base) aT4 (by omega) (by omega)
  have hpk:=fun base=>run_Check (base:=base) aO4 (by omega)
  have g01:=x1.get g0'
  unfold ribB rrbB at eG4
  unfold rrbB at gT4
  have gO4':=gO4
  unfold ribB at gO4'
  have gc4':=gc4
  unfold ribB at gc4'
  have gk4':=gk4
  unfold cutB at gk4'
  by_cases c:chkR R=0
  ·have hok:=chkR_iff.1 c
   have hL:=hok.L
   rw [c] at hck hpk
   have hth:=fun base=>run_there (base:=base) (k:=cw) (u:=cf) aT4 (by omega) (by omega)
   have hwl:∀ k:Nat,cw=(k:Int)→k<R.W.length→R.W[k]?=some (R.W.getD k ⟨0,0,0,0,0⟩):=fun k _ hk=>by rw [List.getD_eq_getElem?_getD,List.getElem?_eq_getElem hk];rfl
   by_cases ct:(0≤cw∧cw≤(R.W.length:Int)-1)∧(0≤cf∧cf≤R.L-1)
   ·rw [if_pos ct] at hth
    obtain ⟨k,ek⟩:=Int.eq_ofNat_of_zero_le ct.1.1
    obtain ⟨x,ex⟩:=Int.eq_ofNat_of_zero_le ct.2.1
    have hw:=hwl k ek (by omega)
    generalize R.W.getD k ⟨0,0,0,0,0⟩=w at hw
    have hal:=fun base=>run_allowed (base:=base) (j:=cj) aT4 hok hw (show x<R.L.toNat by omega)
    have etc:takC R ⟨cw,cf,cj⟩=takL R w x cj:=by
     unfold takC
     simp only
     rw [ek,ex,Int.toNat_natCast,Int.toNat_natCast,hw]
    rw [← ek,← ex] at hal
    unfold allV at hal
    cases qa:takL R w x cj with
    | none =>
     have tv:takE R ⟨cw,cf,cj⟩=(0,0,6):=by
      unfold takE;rw [if_neg (fun q=>q c),if_neg (fun q=>q ct),etc,qa]
     rw [qa] at hal
     by_cases ca:0≤at_∧at_<R.L
     ·have t2:(at_ ≥ 0)=True:=eq_true ca.1
      have t3:(at_<R.L)=True:=eq_true ca.2
      obtain ⟨y,ey⟩:=Int.eq_ofNat_of_zero_le ca.1
      obtain ⟨dv,Z,e5,xZ,oA⟩:=run_rall (base:=h.length) (h:=G4) (x:=y) (by omega) aT4 hok (by omega)
      have hcl:=cutL_len (x:=y) hok
      obtain ⟨lc,elc⟩:∃ lc:List Ct,lc=(cutL R y).map (·.1):=⟨_,rfl⟩
      have llc:lc.length≤12:=by rw [elc,List.length_map];exact hcl
      rw [← elc] at oA
      rw [← ey] at e5
      have odv:=oA.one
      have hd:Rows encC Z dv lc:=oA.rows (by omega)
      have cv:ctsE R at_=(lc,0):=by unfold ctsE;rw [if_neg (fun q=>q c),if_neg (fun q=>q ⟨ca.1,by omega⟩),elc,ey,Int.toNat_natCast]
      have lZ:=xZ.len
      have aO:=aO4.ext xZ
      have gO:=xZ.get gO4
      have gc:=xZ.get gc4
      have gk:=xZ.get gk4
      have c1:=fun base=>run_Take (base:=base) (c:=⟨cw,cf,cj⟩) aO (by omega)
      rw [tv] at c1
      obtain ⟨_,Z1,c2,z1,u,rfl,oC⟩:=run_Cuts (base:=h.length) (h:=Z) (from_:=at_) (by omega) aO (by omega)
      rw [cv] at c2 oC
      have oC:Own encC 57 Z.length Z1 u lc:=oC
      have lz1:=z1.len
      have ou:=oC.one
      obtain ⟨w5,Z2,c3,z2,oD⟩:=run_rcuts (base:=h.length) (h:=Z1) (l:=lc) (by omega) (oC.rows (by omega)) (by omega)
      have ow5:=oD.one
      have z12:=z1.trans z2
      have q1:=fun base=>run_eqD (base:=base) (oD.rows (by omega)) (hd.ext z12) (by omega)
      have q3:=fun base=>run_same (base:=base) (aO.ext z12) (hA.ext (xh4.trans (xZ.trans z12))) (by omega)
      have q5:=fun base=>run_awake (base:=base) (h:=Z2)
      have gO1:=z1.get gO
      have gO2:=z2.get gO1
      have gc2:=z12.get gc
      unfold ribB at gO gO1 gO2 gc2
      unfold cutB at gk
      have hsp:=@Nat.succ_ne_zero;repeat' (first|simp (disch:=first|exact dq|fail) only [go_sem,↓reduceIte,hsp,← eG0,g0',hg,e1,g01,e2,← eG4,gT4,hck,gO4',hpk,not_true,eq_self,hth,gk4',hal,t2,t3,gc4',e5,gk,c1,gO,c2,gO1,c3,decide_true,q1,q3,q5,gO2,gc2]|refine WP_drw ?_|refine cnd_intro (fun hsp=>?_) fun hsp=>?_)
      exact fB rfl (xh4.trans (xZ.trans z12))
     ·by_cases cn:at_ ≥ 0
      ·have t2:(at_ ≥ 0)=True:=eq_true cn
       have t3:(at_<R.L)=False:=eq_false (by omega)
       obtain ⟨Z,eZ⟩:∃ Z,Z=G4:=⟨_,rfl⟩
       have xZ:Ext G4 Z:=by rw [eZ];exact .refl
       rw [← eZ] at eG4 gT4 hck hpk gO4' hth gc4' gk4'
       try rw [← eZ] at hal
       obtain ⟨lc,elc⟩:∃ lc:List Ct,lc=[]:=⟨_,rfl⟩
       have llc:lc.length≤12:=by rw [elc];simp
       have hd:Rows encC Z (.slice none 0 0) lc:=by rw [elc];exact Rows.nil
       have cv:ctsE R at_=(lc,1):=by unfold ctsE;rw [if_neg (fun q=>q c),if_pos (fun q=>ca ⟨q.1,by omega⟩),elc]
       have lZ:=xZ.len
       have aO:=aO4.ext xZ
       have gO:=xZ.get gO4
       have gc:=xZ.get gc4
       have gk:=xZ.get gk4
       have c1:=fun base=>run_Take (base:=base) (c:=⟨cw,cf,cj⟩) aO (by omega)
       rw [tv] at c1
       obtain ⟨_,Z1,c2,z1,u,rfl,oC⟩:=run_Cuts (base:=h.length) (h:=Z) (from_:=at_) (by omega) aO (by omega)
       rw [cv] at c2 oC
       have oC:Own encC 57 Z.length Z1 u lc:=oC
       have lz1:=z1.len
       have ou:=oC.one
       obtain ⟨w5,Z2,c3,z2,oD⟩:=run_rcuts (base:=h.length) (h:=Z1) (l:=lc) (by omega) (oC.rows (by omega)) (by omega)
       have ow5:=oD.one
       have z12:=z1.trans z2
       have q1:=fun base=>run_eqD (base:=base) (oD.rows (by omega)) (hd.ext z12) (by omega)
       have q3:=fun base=>run_same (base:=base) (aO.ext z12) (hA.ext (xh4.trans (xZ.trans z12))) (by omega)
       have q5:=fun base=>run_awake (base:=base) (h:=Z2)
       have gO1:=z1.get gO
       have gO2:=z2.get gO1
       have gc2:=z12.get gc
       unfold ribB at gO gO1 gO2 gc2
       unfold cutB at gk
       have hsp:=@Nat.succ_ne_zero;repeat' (first|simp (disch:=first|exact dq|fail) only [go_sem,↓reduceIte,hsp,← eG0,g0',hg,e1,g01,e2,← eG4,gT4,hck,gO4',hpk,not_true,eq_self,hth,gk4',hal,t2,t3,gc4',gk,c1,gO,c2,gO1,c3,decide_true,q1,q3,q5,gO2,gc2]|refine WP_drw ?_|refine cnd_intro (fun hsp=>?_) fun hsp=>?_)
       exact fB rfl (xh4.trans (xZ.trans z12))
      ·have t2:(at_ ≥ 0)=False:=eq_false cn
       have t3:True:=trivial
       obtain ⟨Z,eZ⟩:∃ Z,Z=G4:=⟨_,rfl⟩
       have xZ:Ext G4 Z:=by rw [eZ];exact .refl
       rw [← eZ] at eG4 gT4 hck hpk gO4' hth gc4' gk4'
       try rw [← eZ] at hal
       obtain ⟨lc,elc⟩:∃ lc:List Ct,lc=[]:=⟨_,rfl⟩
       have llc:lc.length≤12:=by rw [elc];simp
       have hd:Rows encC Z (.slice none 0 0) lc:=by rw [elc];exact Rows.nil
       have cv:ctsE R at_=(lc,1):=by unfold ctsE;rw [if_neg (fun q=>q c),if_pos (fun q=>ca ⟨q.1,by omega⟩),elc]
       have lZ:=xZ.len
       have aO:=aO4.ext xZ
       have gO:=xZ.get gO4
       have gc:=xZ.get gc4
       have gk:=xZ.get gk4
       have c1:=fun base=>run_Take (base:=base) (c:=⟨cw,cf,cj⟩) aO (by omega)
       rw [tv] at c1
       obtain ⟨_,Z1,c2,z1,u,rfl,oC⟩:=run_Cuts (base:=h.length) (h:=Z) (from_:=at_) (by omega) aO (by omega)
       rw [cv] at c2 oC
       have oC:Own encC 57 Z.length Z1 u lc:=oC
       have lz1:=z1.len
       have ou:=oC.one
       obtain ⟨w5,Z2,c3,z2,oD⟩:=run_rcuts (base:=h.length) (h:=Z1) (l:=lc) (by omega) (oC.rows (by omega)) (by omega)
       have ow5:=oD.one
       have z12:=z1.trans z2
       have q1:=fun base=>run_eqD (base:=base) (oD.rows (by omega)) (hd.ext z12) (by omega)
       have q3:=fun base=>run_same (base:=base) (aO.ext z12) (hA.ext (xh4.trans (xZ.trans z12))) (by omega)
       have q5:=fun base=>run_awake (base:=base) (h:=Z2)
       have gO1:=z1.get gO
       have gO2:=z2.get gO1
       have gc2:=z12.get gc
       unfold ribB at gO gO1 gO2 gc2
       unfold cutB at gk
       have hsp:=@Nat.succ_ne_zero;repeat' (first|simp (disch:=first|exact dq|fail) only [go_sem,↓reduceIte,hsp,← eG0,g0',hg,e1,g01,e2,← eG4,gT4,hck,gO4',hpk,not_true,eq_self,hth,gk4',hal,t2,t3,gc4',gk,c1,gO,c2,gO1,c3,decide_true,q1,q3,q5,gO2,gc2]|refine WP_drw ?_|refine cnd_intro (fun hsp=>?_) fun hsp=>?_)
       exact fB rfl (xh4.trans (xZ.trans z12))
    | some e =>
     have tv:takE R ⟨cw,cf,cj⟩=(e.1,e.2,0):=by
      unfold takE;rw [if_neg (fun q=>q c),if_neg (fun q=>q ct),etc,qa]
     rw [qa] at hal
     by_cases ca:0≤at_∧at_<R.L
     ·have t2:(at_ ≥ 0)=True:=eq_true ca.1
      have t3:(at_<R.L)=True:=eq_true ca.2
      obtain ⟨y,ey⟩:=Int.eq_ofNat_of_zero_le ca.1
      obtain ⟨dv,Z,e5,xZ,oA⟩:=run_rall (base:=h.length) (h:=G4) (x:=y) (by omega) aT4 hok (by omega)
      have hcl:=cutL_len (x:=y) hok
      obtain ⟨lc,elc⟩:∃ lc:List Ct,lc=(cutL R y).map (·.1):=⟨_,rfl⟩
      have llc:lc.length≤12:=by rw [elc,List.length_map];exact hcl
      rw [← elc] at oA
      rw [← ey] at e5
      have odv:=oA.one
      have hd:Rows encC Z dv lc:=oA.rows (by omega)
      have cv:ctsE R at_=(lc,0):=by unfold ctsE;rw [if_neg (fun q=>q c),if_neg (fun q=>q ⟨ca.1,by omega⟩),elc,ey,Int.toNat_natCast]
      have lZ:=xZ.len
      have aO:=aO4.ext xZ
      have gO:=xZ.get gO4
      have gc:=xZ.get gc4
      have gk:=xZ.get gk4
      have c1:=fun base=>run_Take (base:=base) (c:=⟨cw,cf,cj⟩) aO (by omega)
      rw [tv] at c1
      obtain ⟨_,Z1,c2,z1,u,rfl,oC⟩:=run_Cuts (base:=h.length) (h:=Z) (from_:=at_) (by omega) aO (by omega)
      rw [cv] at c2 oC
      have oC:Own encC 57 Z.length Z1 u lc:=oC
      have lz1:=z1.len
      have ou:=oC.one
      obtain ⟨w5,Z2,c3,z2,oD⟩:=run_rcuts (base:=h.length) (h:=Z1) (l:=lc) (by omega) (oC.rows (by omega)) (by omega)
      have ow5:=oD.one
      have z12:=z1.trans z2
      have q1:=fun base=>run_eqD (base:=base) (oD.rows (by omega)) (hd.ext z12) (by omega)
      have q3:=fun base=>run_same (base:=base) (aO.ext z12) (hA.ext (xh4.trans (xZ.trans z12))) (by omega)
      have q5:=fun base=>run_awake (base:=base) (h:=Z2)
      have gO1:=z1.get gO
      have gO2:=z2.get gO1
      have gc2:=z12.get gc
      unfold ribB at gO gO1 gO2 gc2
      unfold cutB at gk
      have hsp:=@Nat.succ_ne_zero;repeat' (first|simp (disch:=first|exact dq|fail) only [go_sem,↓reduceIte,hsp,← eG0,g0',hg,e1,g01,e2,← eG4,gT4,hck,gO4',hpk,not_true,eq_self,hth,gk4',hal,t2,t3,gc4',e5,gk,c1,gO,c2,gO1,c3,decide_true,q1,q3,q5,gO2,gc2]|refine WP_drw ?_|refine cnd_intro (fun hsp=>?_) fun hsp=>?_)
      exact fB rfl (xh4.trans (xZ.trans z12))
     ·by_cases cn:at_ ≥ 0
      ·have t2:(at_ ≥ 0)=True:=eq_true cn
       have t3:(at_<R.L)=False:=eq_false (by omega)
       obtain ⟨Z,eZ⟩:∃ Z,Z=G4:=⟨_,rfl⟩
       have xZ:Ext G4 Z:=by rw [eZ];exact .refl
       rw [← eZ] at eG4 gT4 hck hpk gO4' hth gc4' gk4'
       try rw [← eZ] at hal
       obtain ⟨lc,elc⟩:∃ lc:List Ct,lc=[]:=⟨_,rfl⟩
       have llc:lc.length≤12:=by rw [elc];simp
       have hd:Rows encC Z (.slice none 0 0) lc:=by rw [elc];exact Rows.nil
       have cv:ctsE R at_=(lc,1):=by unfold ctsE;rw [if_neg (fun q=>q c),if_pos (fun q=>ca ⟨q.1,by omega⟩),elc]
       have lZ:=xZ.len
       have aO:=aO4.ext xZ
       have gO:=xZ.get gO4
       have gc:=xZ.get gc4
       have gk:=xZ.get gk4
       have c1:=fun base=>run_Take (base:=base) (c:=⟨cw,cf,cj⟩) aO (by omega)
       rw [tv] at c1
       obtain ⟨_,Z1,c2,z1,u,rfl,oC⟩:=run_Cuts (base:=h.length) (h:=Z) (from_:=at_) (by omega) aO (by omega)
       rw [cv] at c2 oC
       have oC:Own encC 57 Z.length Z1 u lc:=oC
       have lz1:=z1.len
       have ou:=oC.one
       obtain ⟨w5,Z2,c3,z2,oD⟩:=run_rcuts (base:=h.length) (h:=Z1) (l:=lc) (by omega) (oC.rows (by omega)) (by omega)
       have ow5:=oD.one
       have z12:=z1.trans z2
       have q1:=fun base=>run_eqD (base:=base) (oD.rows (by omega)) (hd.ext z12) (by omega)
       have q3:=fun base=>run_same (base:=base) (aO.ext z12) (hA.ext (xh4.trans (xZ.trans z12))) (by omega)
       have q5:=fun base=>run_awake (base:=base) (h:=Z2)
       have gO1:=z1.get gO
       have gO2:=z2.get gO1
       have gc2:=z12.get gc
       unfold ribB at gO gO1 gO2 gc2
       unfold cutB at gk
       have hsp:=@Nat.succ_ne_zero;repeat' (first|simp (disch:=first|exact dq|fail) only [go_sem,↓reduceIte,hsp,← eG0,g0',hg,e1,g01,e2,← eG4,gT4,hck,gO4',hpk,not_true,eq_self,hth,gk4',hal,t2,t3,gc4',gk,c1,gO,c2,gO1,c3,decide_true,q1,q3,q5,gO2,gc2]|refine WP_drw ?_|refine cnd_intro (fun hsp=>?_) fun hsp=>?_)
       exact fB rfl (xh4.trans (xZ.trans z12))
      ·have t2:(at_ ≥ 0)=False:=eq_false cn
       have t3:True:=trivial
       obtain ⟨Z,eZ⟩:∃ Z,Z=G4:=⟨_,rfl⟩
       have xZ:Ext G4 Z:=by rw [eZ];exact .refl
       rw [← eZ] at eG4 gT4 hck hpk gO4' hth gc4' gk4'
       try rw [← eZ] at hal
       obtain ⟨lc,elc⟩:∃ lc:List Ct,lc=[]:=⟨_,rfl⟩
       have llc:lc.length≤12:=by rw [elc];simp
       have hd:Rows encC Z (.slice none 0 0) lc:=by rw [elc];exact Rows.nil
       have cv:ctsE R at_=(lc,1):=by unfold ctsE;rw [if_neg (fun q=>q c),if_pos (fun q=>ca ⟨q.1,by omega⟩),elc]
       have lZ:=xZ.len
       have aO:=aO4.ext xZ
       have gO:=xZ.get gO4
       have gc:=xZ.get gc4
       have gk:=xZ.get gk4
       have c1:=fun base=>run_Take (base:=base) (c:=⟨cw,cf,cj⟩) aO (by omega)
       rw [tv] at c1
       obtain ⟨_,Z1,c2,z1,u,rfl,oC⟩:=run_Cuts (base:=h.length) (h:=Z) (from_:=at_) (by omega) aO (by omega)
       rw [cv] at c2 oC
       have oC:Own encC 57 Z.length Z1 u lc:=oC
       have lz1:=z1.len
       have ou:=oC.one
       obtain ⟨w5,Z2,c3,z2,oD⟩:=run_rcuts (base:=h.length) (h:=Z1) (l:=lc) (by omega) (oC.rows (by omega)) (by omega)
       have ow5:=oD.one
       have z12:=z1.trans z2
       have q1:=fun base=>run_eqD (base:=base) (oD.rows (by omega)) (hd.ext z12) (by omega)
       have q3:=fun base=>run_same (base:=base) (aO.ext z12) (hA.ext (xh4.trans (xZ.trans z12))) (by omega)
       have q5:=fun base=>run_awake (base:=base) (h:=Z2)
       have gO1:=z1.get gO
       have gO2:=z2.get gO1
       have gc2:=z12.get gc
       unfold ribB at gO gO1 gO2 gc2
       unfold cutB at gk
       have hsp:=@Nat.succ_ne_zero;repeat' (first|simp (disch:=first|exact dq|fail) only [go_sem,↓reduceIte,hsp,← eG0,g0',hg,e1,g01,e2,← eG4,gT4,hck,gO4',hpk,not_true,eq_self,hth,gk4',hal,t2,t3,gc4',gk,c1,gO,c2,gO1,c3,decide_true,q1,q3,q5,gO2,gc2]|refine WP_drw ?_|refine cnd_intro (fun hsp=>?_) fun hsp=>?_)
       exact fB rfl (xh4.trans (xZ.trans z12))
   ·rw [if_neg ct] at hth
    have hal:True:=trivial
    have tv:takE R ⟨cw,cf,cj⟩=(0,0,1):=by
     unfold takE;rw [if_neg (fun q=>q c),if_pos ct]
    by_cases ca:0≤at_∧at_<R.L
    ·have t2:(at_ ≥ 0)=True:=eq_true ca.1
     have t3:(at_<R.L)=True:=eq_true ca.2
     obtain ⟨y,ey⟩:=Int.eq_ofNat_of_zero_le ca.1
     obtain ⟨dv,Z,e5,xZ,oA⟩:=run_rall (base:=h.length) (h:=G4) (x:=y) (by omega) aT4 hok (by omega)
     have hcl:=cutL_len (x:=y) hok
     obtain ⟨lc,elc⟩:∃ lc:List Ct,lc=(cutL R y).map (·.1):=⟨_,rfl⟩
     have llc:lc.length≤12:=by rw [elc,List.length_map];exact hcl
     rw [← elc] at oA
     rw [← ey] at e5
     have odv:=oA.one
     have hd:Rows encC Z dv lc:=oA.rows (by omega)
     have cv:ctsE R at_=(lc,0):=by unfold ctsE;rw [if_neg (fun q=>q c),if_neg (fun q=>q ⟨ca.1,by omega⟩),elc,ey,Int.toNat_natCast]
     have lZ:=xZ.len
     have aO:=aO4.ext xZ
     have gO:=xZ.get gO4
     have gc:=xZ.get gc4
     have gk:=xZ.get gk4
     have c1:=fun base=>run_Take (base:=base) (c:=⟨cw,cf,cj⟩) aO (by omega)
     rw [tv] at c1
     obtain ⟨_,Z1,c2,z1,u,rfl,oC⟩:=run_Cuts (base:=h.length) (h:=Z) (from_:=at_) (by omega) aO (by omega)
     rw [cv] at c2 oC
     have oC:Own encC 57 Z.length Z1 u lc:=oC
     have lz1:=z1.len
     have ou:=oC.one
     obtain ⟨w5,Z2,c3,z2,oD⟩:=run_rcuts (base:=h.length) (h:=Z1) (l:=lc) (by omega) (oC.rows (by omega)) (by omega)
     have ow5:=oD.one
     have z12:=z1.trans z2
     have q1:=fun base=>run_eqD (base:=base) (oD.rows (by omega)) (hd.ext z12) (by omega)
     have q3:=fun base=>run_same (base:=base) (aO.ext z12) (hA.ext (xh4.trans (xZ.trans z12))) (by omega)
     have q5:=fun base=>run_awake (base:=base) (h:=Z2)
     have gO1:=z1.get gO
     have gO2:=z2.get gO1
     have gc2:=z12.get gc
     unfold ribB at gO gO1 gO2 gc2
     unfold cutB at gk
     have hsp:=@Nat.succ_ne_zero;repeat' (first|simp (disch:=first|exact dq|fail) only [go_sem,↓reduceIte,hsp,← eG0,g0',hg,e1,g01,e2,← eG4,gT4,hck,gO4',hpk,not_true,eq_self,hth,gk4',hal,t2,t3,gc4',e5,gk,c1,gO,c2,gO1,c3,decide_true,q1,q3,q5,gO2,gc2]|refine WP_drw ?_|refine cnd_intro (fun hsp=>?_) fun hsp=>?_)
     exact fB rfl (xh4.trans (xZ.trans z12))
    ·by_cases cn:at_ ≥ 0
     ·have t2:(at_ ≥ 0)=True:=eq_true cn
      have t3:(at_<R.L)=False:=eq_false (by omega)
      obtain ⟨Z,eZ⟩:∃ Z,Z=G4:=⟨_,rfl⟩
      have xZ:Ext G4 Z:=by rw [eZ];exact .refl
      rw [← eZ] at eG4 gT4 hck hpk gO4' hth gc4' gk4'
      try rw [← eZ] at hal
      obtain ⟨lc,elc⟩:∃ lc:List Ct,lc=[]:=⟨_,rfl⟩
      have llc:lc.length≤12:=by rw [elc];simp
      have hd:Rows encC Z (.slice none 0 0) lc:=by rw [elc];exact Rows.nil
      have cv:ctsE R at_=(lc,1):=by unfold ctsE;rw [if_neg (fun q=>q c),if_pos (fun q=>ca ⟨q.1,by omega⟩),elc]
      have lZ:=xZ.len
      have aO:=aO4.ext xZ
      have gO:=xZ.get gO4
      have gc:=xZ.get gc4
      have gk:=xZ.get gk4
      have c1:=fun base=>run_Take (base:=base) (c:=⟨cw,cf,cj⟩) aO (by omega)
      rw [tv] at c1
      obtain ⟨_,Z1,c2,z1,u,rfl,oC⟩:=run_Cuts (base:=h.length) (h:=Z) (from_:=at_) (by omega) aO (by omega)
      rw [cv] at c2 oC
      have oC:Own encC 57 Z.length Z1 u lc:=oC
      have lz1:=z1.len
      have ou:=oC.one
      obtain ⟨w5,Z2,c3,z2,oD⟩:=run_rcuts (base:=h.length) (h:=Z1) (l:=lc) (by omega) (oC.rows (by omega)) (by omega)
      have ow5:=oD.one
      have z12:=z1.trans z2
      have q1:=fun base=>run_eqD (base:=base) (oD.rows (by omega)) (hd.ext z12) (by omega)
      have q3:=fun base=>run_same (base:=base) (aO.ext z12) (hA.ext (xh4.trans (xZ.trans z12))) (by omega)
      have q5:=fun base=>run_awake (base:=base) (h:=Z2)
      have gO1:=z1.get gO
      have gO2:=z2.get gO1
      have gc2:=z12.get gc
      unfold ribB at gO gO1 gO2 gc2
      unfold cutB at gk
      have hsp:=@Nat.succ_ne_zero;repeat' (first|simp (disch:=first|exact dq|fail) only [go_sem,↓reduceIte,hsp,← eG0,g0',hg,e1,g01,e2,← eG4,gT4,hck,gO4',hpk,not_true,eq_self,hth,gk4',hal,t2,t3,gc4',gk,c1,gO,c2,gO1,c3,decide_true,q1,q3,q5,gO2,gc2]|refine WP_drw ?_|refine cnd_intro (fun hsp=>?_) fun hsp=>?_)
      exact fB rfl (xh4.trans (xZ.trans z12))
     ·have t2:(at_ ≥ 0)=False:=eq_false cn
      have t3:True:=trivial
      obtain ⟨Z,eZ⟩:∃ Z,Z=G4:=⟨_,rfl⟩
      have xZ:Ext G4 Z:=by rw [eZ];exact .refl
      rw [← eZ] at eG4 gT4 hck hpk gO4' hth gc4' gk4'
      try rw [← eZ] at hal
      obtain ⟨lc,elc⟩:∃ lc:List Ct,lc=[]:=⟨_,rfl⟩
      have llc:lc.length≤12:=by rw [elc];simp
      have hd:Rows encC Z (.slice none 0 0) lc:=by rw [elc];exact Rows.nil
      have cv:ctsE R at_=(lc,1):=by unfold ctsE;rw [if_neg (fun q=>q c),if_pos (fun q=>ca ⟨q.1,by omega⟩),elc]
      have lZ:=xZ.len
      have aO:=aO4.ext xZ
      have gO:=xZ.get gO4
      have gc:=xZ.get gc4
      have gk:=xZ.get gk4
      have c1:=fun base=>run_Take (base:=base) (c:=⟨cw,cf,cj⟩) aO (by omega)
      rw [tv] at c1
      obtain ⟨_,Z1,c2,z1,u,rfl,oC⟩:=run_Cuts (base:=h.length) (h:=Z) (from_:=at_) (by omega) aO (by omega)
      rw [cv] at c2 oC
      have oC:Own encC 57 Z.length Z1 u lc:=oC
      have lz1:=z1.len
      have ou:=oC.one
      obtain ⟨w5,Z2,c3,z2,oD⟩:=run_rcuts (base:=h.length) (h:=Z1) (l:=lc) (by omega) (oC.rows (by omega)) (by omega)
      have ow5:=oD.one
      have z12:=z1.trans z2
      have q1:=fun base=>run_eqD (base:=base) (oD.rows (by omega)) (hd.ext z12) (by omega)
      have q3:=fun base=>run_same (base:=base) (aO.ext z12) (hA.ext (xh4.trans (xZ.trans z12))) (by omega)
      have q5:=fun base=>run_awake (base:=base) (h:=Z2)
      have gO1:=z1.get gO
      have gO2:=z2.get gO1
      have gc2:=z12.get gc
      unfold ribB at gO gO1 gO2 gc2
      unfold cutB at gk
      have hsp:=@Nat.succ_ne_zero;repeat' (first|simp (disch:=first|exact dq|fail) only [go_sem,↓reduceIte,hsp,← eG0,g0',hg,e1,g01,e2,← eG4,gT4,hck,gO4',hpk,not_true,eq_self,hth,gk4',hal,t2,t3,gc4',gk,c1,gO,c2,gO1,c3,decide_true,q1,q3,q5,gO2,gc2]|refine WP_drw ?_|refine cnd_intro (fun hsp=>?_) fun hsp=>?_)
      exact fB rfl (xh4.trans (xZ.trans z12))
  ·have tu:(chkR R=0)=False:=eq_false c
   obtain ⟨Z,eZ⟩:∃ Z,Z=G4:=⟨_,rfl⟩
   have xZ:Ext G4 Z:=by rw [eZ];exact .refl
   rw [← eZ] at eG4 gT4 hck hpk gO4'
   obtain ⟨lc,elc⟩:∃ lc:List Ct,lc=[]:=⟨_,rfl⟩
   have llc:lc.length≤12:=by rw [elc];simp
   have hd:Rows encC Z (.slice none 0 0) lc:=by rw [elc];exact Rows.nil
   have cv:ctsE R at_=(lc,chkR R):=by unfold ctsE;rw [if_pos c,elc]
   have tv:takE R ⟨cw,cf,cj⟩=(0,0,chkR R):=by unfold takE;rw [if_pos c]
   have lZ:=xZ.len
   have aO:=aO4.ext xZ
   have gO:=xZ.get gO4
   have gc:=xZ.get gc4
   have gk:=xZ.get gk4
   have c1:=fun base=>run_Take (base:=base) (c:=⟨cw,cf,cj⟩) aO (by omega)
   rw [tv] at c1
   obtain ⟨_,Z1,c2,z1,u,rfl,oC⟩:=run_Cuts (base:=h.length) (h:=Z) (from_:=at_) (by omega) aO (by omega)
   rw [cv] at c2 oC
   have oC:Own encC 57 Z.length Z1 u lc:=oC
   have lz1:=z1.len
   have ou:=oC.one
   obtain ⟨w5,Z2,c3,z2,oD⟩:=run_rcuts (base:=h.length) (h:=Z1) (l:=lc) (by omega) (oC.rows (by omega)) (by omega)
   have ow5:=oD.one
   have z12:=z1.trans z2
   have q1:=fun base=>run_eqD (base:=base) (oD.rows (by omega)) (hd.ext z12) (by omega)
   have q3:=fun base=>run_same (base:=base) (aO.ext z12) (hA.ext (xh4.trans (xZ.trans z12))) (by omega)
   have q5:=fun base=>run_awake (base:=base) (h:=Z2)
   have gO1:=z1.get gO
   have gO2:=z2.get gO1
   have gc2:=z12.get gc
   unfold ribB at gO gO1 gO2 gc2
   unfold cutB at gk
   have hsp:=@Nat.succ_ne_zero;repeat' (first|simp (disch:=first|exact dq|fail) only [go_sem,↓reduceIte,hsp,← eG0,g0',hg,e1,g01,e2,← eG4,gT4,hck,gO4',hpk,not_true,eq_self,tu,gk,c1,gO,c2,gO1,c3,decide_true,q1,q3,q5,gO2,gc2]|refine WP_drw ?_|refine cnd_intro (fun hsp=>?_) fun hsp=>?_)
   exact fB rfl (xh4.trans (xZ.trans z12))
end Go.AM
namespace Go.AM
open Go.Proofs.Tryz
attribute [-go_sem] put_ne put_same
attribute [local go_sem ↓] put_if
section
variable {h:Heap} {pv:AVal} {P:List Ct} {i:Nat} {c:Ct}
theorem rct_len (hR:Rows encC h pv P):lenOpA prog h 126 pv=some (.int .i64 (P.length:Int)):=hR.len (P:=prog) Fc.el126
theorem rct_ad (hR:Rows encC h pv P) (hi:i<P.length):indexAddrA prog 126 pv (.int .i64 (i:Int))=some (elAdr pv encC.z i 0):=by
 have:=hR.addr (P:=prog) (i:=(i:Int)) Fc.el126 Fc.ar126 (by omega) (by omega)
 rwa [Int.toNat_natCast] at this
theorem rct_ld (hR:Rows encC h pv P) (hx:P[i]?=some c):loadP prog h 129 (elAdr pv encC.z i 0)=some (.agg [.int .i64 c.w,.int .i64 c.f,.bool c.j]):=hR.load (P:=prog) Fc.ty129 hx
theorem rct_f0 (hR:Rows encC h pv P) (hi:i<P.length):fieldAddrA prog 129 (elAdr pv encC.z i 0) 0=some (elAdr pv encC.z i 0):=elAdr_field (P:=prog) (i:=i) (o:=0) (off:=0) (q:=false) (n:=1) hR hi (by kernel_rfl) (by decide)
theorem rct_f1 (hR:Rows encC h pv P) (hi:i<P.length):fieldAddrA prog 129 (elAdr pv encC.z i 0) 1=some (elAdr pv encC.z i 1):=elAdr_field (P:=prog) (i:=i) (o:=0) (off:=1) (q:=false) (n:=1) hR hi (by kernel_rfl) (by decide)
theorem rct_l0 (hR:Rows encC h pv P) (hx:P[i]?=some c):loadP prog h 3 (elAdr pv encC.z i 0)=some (.int .i64 c.w):=hR.cell (P:=prog) Fc.ty3 hx (o:=0) (a:=.int .i64 c.w) rfl
theorem rct_l1 (hR:Rows encC h pv P) (hx:P[i]?=some c):loadP prog h 3 (elAdr pv encC.z i 1)=some (.int .i64 c.f):=hR.cell (P:=prog) Fc.ty3 hx (o:=1) (a:=.int .i64 c.f) rfl
end
set_option maxRecDepth 100000 in
set_option maxHeartbeats 4000000 in
theorem run_rplan {base:Nat} {h:Heap} {v pv:AVal} {R:Rib} {p:List Ct} (hA:RibAt h v R) (hR:RibOk R) (hP:Rows encC h pv p) :
  callL prog raw base (.fn 64 [] []) [v,pv] h=some (.tuple [.int .i64 (plnL R p 0 0).1,.int .i64 (plnL R p 0 0).2],h):=by
 have hAe:=fun H (e:Ext h H)=>hA.ext e
 obtain ⟨fv,wv,rfl,hF,hW⟩:=hA
 have o1:=hF.one
 have o2:=hW.one
 have op:=hP.one
 have hL:=hR.L
 have hnW:=hR.nW
 have hpl:=hP.1
 obtain ⟨G0,eG0⟩:∃ G0,G0=h++[rrbB R.L fv wv]:=⟨_,rfl⟩
 have x0:Ext h G0:=by rw [eG0];exact .app .refl
 have g0:G0[h.length]?=some (rrbB R.L fv wv):=by rw [eG0];exact get_eq rfl
 have l0:G0.length=h.length+1:=by rw [eG0];simp
 have hn:=rct_len (hP.ext x0)
 have hAG:=hAe G0 x0
 have iP:=hP.ext x0
 unfold rrbB at eG0 g0
 obtain ⟨Z,eZ⟩:∃ Z,Z=plnL R p 0 0:=⟨_,rfl⟩
 rw [← eZ]
 refine callL_run func64 rfl rfl ?_
 have hsp:=@Nat.succ_ne_zero;repeat' (first|simp (disch:=first|exact dq|fail) only [go_sem,↓reduceIte,hsp,← eG0]|refine WP_drw ?_|refine cnd_intro (fun hsp=>?_) fun hsp=>?_)
 refine WP_count [(4,56)] 0 p.length (Nat.zero_le _) (fun _ i fr H=>fr 8=.int .i64 (i:Int)∧H=G0∧∃ a s:Int,fr 6=.int .i64 a∧fr 7=.int .i64 s∧plnL R (p.drop i) a s=Z∧(0≤a∧a≤R.L)∧(0≤s∧s≤100 * a)) ?_ ?_ ?_
 ·exact ⟨by (simp (disch:=first|exact dq|fail) only [go_sem,↓reduceIte,Int.natCast_zero];first|done|rfl),rfl,0,0,by simp (disch:=first|exact dq|fail) only [go_sem,↓reduceIte],by simp (disch:=first|exact dq|fail) only [go_sem,↓reduceIte],by rw [List.drop_zero,eZ],by omega,by omega⟩
 ·rintro i fr H hi0 hi hAg ⟨r8,rfl,a,s,r6,r7,hpn,ha,hs⟩
  have q1:=hAg 1 rfl
  have q2:=hAg 2 rfl
  try simp (disch:=first|exact dq|fail) only [go_sem,↓reduceIte] at q1 q2
  have hlt:((i:Int)<(p.length:Int))=True:=eq_true (by omega)
  obtain ⟨c,ec⟩:∃ c,c=p[i]:=⟨_,rfl⟩
  have hx:p[i]?=some c:=by rw [ec];exact List.getElem?_eq_getElem hi
  rw [List.drop_eq_getElem_cons hi,← ec] at hpn
  have a1:=rct_ad iP hi
  have b1:=rct_ld iP hx
  have f0:=rct_f0 iP hi
  have f1:=rct_f1 iP hi
  have c0:=rct_l0 iP hx
  have c1':=rct_l1 iP hx
  have ht0:=fun base=>run_there (base:=base) (k:=c.w) (u:=c.f) hAG (by omega) (by omega)
  unfold plnL at hpn
  by_cases c1:(0≤c.w∧c.w≤(R.W.length:Int)-1)∧(0≤c.f∧c.f≤R.L-1)
  ·rw [if_pos c1] at ht0
   rw [if_neg (fun z=>z c1)] at hpn
   obtain ⟨k,ek⟩:=Int.eq_ofNat_of_zero_le c1.1.1
   obtain ⟨x,ex⟩:=Int.eq_ofNat_of_zero_le c1.2.1
   have hwk:R.W[k]?=some (R.W[k]'(by omega)):=List.getElem?_eq_getElem (by omega)
   generalize R.W[k]'(by omega)=w at hwk
   have ht:=fun base=>run_allowed (base:=base) (j:=c.j) hAG hR hwk (show x<R.L.toNat by omega)
   have etc:takC R c=takL R w x c.j:=by unfold takC;rw [ek,Int.toNat_natCast,hwk];simp only;rw [ex,Int.toNat_natCast]
   rw [← ek,← ex] at ht
   cases hto:takC R c with
   | none =>
    rw [hto] at hpn
    simp only at hpn
    rw [← etc,hto] at ht
    unfold allV at ht
    rw [← hpn]
    have hsp:=@Nat.succ_ne_zero;repeat' (first|simp (disch:=first|exact dq|fail) only [go_sem,↓reduceIte,hsp,r8,r6,r7,q1,q2,hn,hlt,g0,a1,b1,f0,f1,c0,c1',ht0,ht]|refine WP_drw ?_|refine cnd_intro (fun hsp=>?_) fun hsp=>?_)
    exact fin_pl rfl rfl x0
   | some e =>
    rw [hto] at hpn
    simp only at hpn
    rw [← etc,hto] at ht
    have htb:=takL_b hR (hR.W w (List.mem_of_getElem? hwk)) (show x<R.L.toNat by omega) (etc.symm.trans hto)
    obtain ⟨e,pr⟩:=e
    simp only at hpn htb
    unfold allV at ht
    simp only at ht
    by_cases c3:c.f<a
    ·have t3:(c.f<a)=True:=eq_true c3
     rw [if_pos c3] at hpn
     rw [← hpn]
     have hsp:=@Nat.succ_ne_zero;repeat' (first|simp (disch:=first|exact dq|fail) only [go_sem,↓reduceIte,hsp,r8,r6,r7,q1,q2,hn,hlt,g0,a1,b1,f0,f1,c0,c1',ht0,ht,t3]|refine WP_drw ?_|refine cnd_intro (fun hsp=>?_) fun hsp=>?_)
     exact fin_pl rfl rfl x0
    ·have t3:(c.f<a)=False:=eq_false c3
     rw [if_neg c3] at hpn
     have hsp:=@Nat.succ_ne_zero;repeat' (first|simp (disch:=first|exact dq|fail) only [go_sem,↓reduceIte,hsp,r8,r6,r7,q1,q2,hn,hlt,g0,a1,b1,f0,f1,c0,c1',ht0,ht,t3]|refine WP_drw ?_|refine cnd_intro (fun hsp=>?_) fun hsp=>?_)
     exact ⟨agq,by omega,e,s+pr,rfl,rfl,hpn,by omega,by omega⟩
  ·rw [if_neg c1] at ht0
   rw [if_pos c1] at hpn
   have t1:((1:Int)=0)=False:=eq_false (by omega)
   rw [← hpn]
   have hsp:=@Nat.succ_ne_zero;repeat' (first|simp (disch:=first|exact dq|fail) only [go_sem,↓reduceIte,hsp,r8,r6,r7,q1,q2,hn,hlt,g0,a1,b1,f0,f1,c0,c1',ht0]|refine WP_drw ?_|refine cnd_intro (fun hsp=>?_) fun hsp=>?_)
   exact fin_pl rfl rfl x0
 ·rintro fr H hAg ⟨r8,rfl,a,s,r6,r7,hpn,ha,hs⟩
  have q1:=hAg 1 rfl
  have q2:=hAg 2 rfl
  try simp (disch:=first|exact dq|fail) only [go_sem,↓reduceIte] at q1 q2
  have hlt:((p.length:Int)<(p.length:Int))=False:=eq_false (by omega)
  rw [List.drop_length,plnL] at hpn
  rw [← hpn]
  have hsp:=@Nat.succ_ne_zero;repeat' (first|simp (disch:=first|exact dq|fail) only [go_sem,↓reduceIte,hsp,r8,r6,r7,q1,q2,hn,hlt]|refine WP_drw ?_|refine cnd_intro (fun hsp=>?_) fun hsp=>?_)
  exact fin_pl rfl rfl x0
end Go.AM
namespace Go.AM
open Go.Proofs.Tryz
attribute [-go_sem] put_ne put_same
attribute [local go_sem ↓] put_if
def encO:Enc Bool:=⟨1,fun b=>[.bool b],fun _=>rfl,by decide⟩
theorem encO_sc:∀ y,(encO.cells y).all AVal.scalar=true:=fun _=>rfl
theorem flat_encO:∀ (l:List Bool),flat encO l=l.map AVal.bool
 | []=>rfl
 | x :: l=>by
  have:=flat_encO l
  simp only [flat,List.flatMap_cons,List.map_cons] at this ⊢
  rw [this];rfl
def mrk (n:Nat) (S:List Int):List Bool:=(List.range n).map fun k:Nat=>decide ((k:Int) ∈ S)
theorem mrk_len {n:Nat} {S:List Int}:(mrk n S).length=n:=by simp [mrk]
theorem mrk_at {n k:Nat} {S:List Int} (hk:k<n):(mrk n S)[k]?=some (decide ((k:Int) ∈ S)):=by
 unfold mrk
 rw [List.getElem?_map,List.getElem?_range hk];rfl
theorem mrk_set {n k:Nat} {S:List Int}:(mrk n S).set k true=mrk n (S++[(k:Int)]):=by
 refine List.ext_getElem? fun i=>?_
 by_cases hi:i<n
 ·rw [mrk_at hi]
  by_cases e:k=i
  ·subst e
   rw [List.getElem?_set_self (by rw [mrk_len];exact hi)]
   simp
  ·rw [List.getElem?_set_ne e,mrk_at hi]
   congr 1
   refine decide_eq_decide.2 ⟨fun q=>by simp [q],fun q=>?_⟩
   rcases List.mem_append.1 q with q|q
   ·exact q
   ·simp at q;omega
 ·rw [List.getElem?_eq_none (by rw [List.length_set,mrk_len];omega),List.getElem?_eq_none (by rw [mrk_len];omega)]
theorem mrk_nil {n:Nat}:mrk n []=List.replicate n false:=by
 refine List.ext_getElem? fun i=>?_
 by_cases hi:i<n
 ·rw [mrk_at hi,List.getElem?_replicate,if_pos hi];rfl
 ·rw [List.getElem?_eq_none (by rw [mrk_len];omega),List.getElem?_eq_none (by simp;omega)]
abbrev mkB (n:Nat) (S:List Int):ABlk:=rowE encO 4 (mrk n S) 0
theorem ld_mrk {K:Heap} {id n k:Nat} {S:List Int} (hg:K[id]?=some (mkB n S)) (hk:k<n):loadP prog K 4 (.ptr (some ⟨id,0,k⟩))=some (.bool (decide ((k:Int) ∈ S))):=by
 rw [load_eq,Fc.ty4,hg,mkB,rowE,ldB_cell,flat_encO,List.getElem?_map,mrk_at hk]
 rfl
theorem st_mrk {base id n k:Nat} {S:List Int} {F:ABlk→Heap} (hk:k<n) (hb:base≤id):stQ base id (some (mkB n S)) 0 k [.bool true] F=some (F (mkB n (S++[(k:Int)]))):=by
 have:=stQ_rowE (E:=encO) (e:=4) (l:=mrk n S) (i:=k) (base:=base) (id:=id) (ver:=0) (x:=true) (K:=F) (by rw [mrk_len];exact hk) (encO_sc true) hb
 rw [mrk_set] at this
 have e1:k * encO.z=k:=Nat.mul_one k
 rw [e1] at this
 exact this
theorem fold_insK {l:List Int} {k:Int}:∀ {ks:List Int},k ∈ l.foldl insK ks ↔ k ∈ ks ∨ k ∈ l:=by
 induction l with
 | nil=>intro ks;simp
 | cons x l ih =>
  intro ks
  rw [List.foldl_cons,ih,insK_mem]
  simp [or_assoc]
theorem tknL_mem {R:Rib} {k:Int}:∀ {p:List Ct} {ks:List Int},k ∈ tknL R p ks ↔ k ∈ ks ∨ k ∈ p.flatMap (takU R)
 | [],ks=>by simp [tknL]
 | c :: p,ks=>by
  rw [tknL,tknL_mem,fold_insK]
  simp [or_assoc]
theorem spnN_congr {s t:List Int}:∀ {n:Nat},(∀ k:Nat,k<n→((k:Int) ∈ s ↔ (k:Int) ∈ t))→spnN s n=spnN t n
 | 0,_=>rfl
 | n+1,h=>by
  unfold spnN spnS
  rw [spnN_congr fun k hk=>h k (by omega)]
  by_cases c:(n:Int) ∈ t
  ·rw [if_pos c,if_pos ((h n (by omega)).2 c)]
  ·rw [if_neg c,if_neg (fun q=>c ((h n (by omega)).1 q))]
theorem spnN_nt {t:List Int}:∀ {n:Nat},∀ y ∈ spnN t n,y.2 ∉ t
 | 0=>by intro y hy;cases hy
 | n+1=>by
  intro y hy
  unfold spnN spnS at hy
  split at hy
  ·exact spnN_nt y hy
  ·rename_i c
   split at hy
   ·rcases List.mem_or_eq_of_mem_set hy with q|q
    ·exact spnN_nt y q
    ·rw [q];exact c
   ·rcases List.mem_append.1 hy with q|q
    ·exact spnN_nt y q
    ·rw [List.mem_singleton.1 q];exact c
theorem spn_skip {t:List Int} {n:Nat} (h:(n:Int) ∈ t):spnN t (n+1)=spnN t n:=by
 rw [spnN,spnS,if_pos h]
theorem spn_new {t:List Int} {n:Nat} (h:(n:Int) ∉ t) (h0:n=0 ∨ (n:Int)-1 ∈ t):spnN t (n+1)=spnN t n++[((n:Int),(n:Int))]:=by
 rw [spnN,spnS,if_neg h,if_neg]
 rintro ⟨h1,h2⟩
 rcases h0 with rfl|h0
 ·simp [spnN] at h1
 ·have hm:=spnN_nt (t:=t) (n:=n) _ (getD_mem' (l:=spnN t n) (d:=(0,0)) (i:=(spnN t n).length-1) (by omega))
  rw [h2] at hm
  exact hm h0
theorem spn_more {t:List Int} {n:Nat} {o:List (Int × Int)} {a:Int} (h:((n+1:Nat):Int) ∉ t) (ho:spnN t (n+1)=o++[(a,(n:Int))]):spnN t (n+1+1)=o++[(a,((n+1:Nat):Int))]:=by
 rw [spnN,spnS,if_neg h,ho]
 have e1:(o++[(a,(n:Int))]).length-1=o.length:=by simp
 have e2:(o++[(a,(n:Int))]).getD o.length (0,0)=(a,(n:Int)):=by simp [List.getD_eq_getElem?_getD]
 rw [e1,e2,if_pos ⟨by simp,by simp only;omega⟩,List.set_append_right _ _ (Nat.le_refl _),Nat.sub_self]
 rfl
theorem run_end {t:List Int} {n u:Nat} (hu:u<n) (h:(u:Int) ∉ t) (h0:u=0 ∨ (u:Int)-1 ∈ t) :
  ∃ v,u≤v∧v<n∧(∀ y:Nat,u≤y→y≤v→(y:Int) ∉ t)∧(v+1<n→((v+1:Nat):Int) ∈ t)∧spnN t (v+1)=spnN t u++[((u:Int),(v:Int))]:=by
 have key:∀ d v:Nat,n-v=d→u≤v→v<n→(∀ y:Nat,u≤y→y≤v→(y:Int) ∉ t)→spnN t (v+1)=spnN t u++[((u:Int),(v:Int))] →
   ∃ v,u≤v∧v<n∧(∀ y:Nat,u≤y→y≤v→(y:Int) ∉ t)∧(v+1<n→((v+1:Nat):Int) ∈ t)∧spnN t (v+1)=spnN t u++[((u:Int),(v:Int))]:=by
  intro d
  induction d with
  | zero=>intro v e _ h2;omega
  | succ d ih =>
   intro v e h1 h2 h3 h4
   by_cases c:v+1<n∧((v+1:Nat):Int) ∉ t
   ·refine ih (v+1) (by omega) (by omega) c.1 (fun y hy hv=>?_) (spn_more c.2 h4)
    by_cases e:y=v+1
    ·rw [e];exact c.2
    ·exact h3 y hy (by omega)
   ·exact ⟨v,h1,h2,h3,fun q=>Classical.byContradiction fun z=>c ⟨q,z⟩,h4⟩
 refine key _ u rfl (Nat.le_refl _) hu (fun y h1 h2=>?_) (spn_new h h0)
 rw [show y=u by omega];exact h
structure Rch (t:List Int) (n u m:Nat):Prop where
 le:u≤m∧m≤n
 fr:∀ y:Nat,u≤y→y<m→(y:Int) ∉ t
 pr:u<m→0<u∧(u:Int)-1 ∉ t
 ed:m<n→(m:Int) ∈ t ∨ (m=u∧(u=0 ∨ (u:Int)-1 ∈ t))
theorem Rch.start {t:List Int} {n:Nat}:Rch t n 0 0:=⟨by omega,fun y _ h=>by omega,fun h=>by omega,fun _=>.inr ⟨rfl,.inl rfl⟩⟩
theorem Rch.last {t:List Int} {n m:Nat} (h:Rch t n n m):m=n:=by have:=h.le;omega
theorem Rch.mark {t:List Int} {n u m:Nat} (h:Rch t n u m) (hu:u<n) (hm:(u:Int) ∈ t):m=u∧Rch t n (u+1) (u+1):=by
 have e:m=u:=by
  have:=h.le
  have:¬ u<m:=fun q=>h.fr u (Nat.le_refl _) q hm
  omega
 refine ⟨e,by omega,fun y h1 h2=>by omega,fun q=>by omega,fun _=>.inr ⟨rfl,.inr ?_⟩⟩
 rw [show ((u+1:Nat):Int)-1=(u:Int) by omega];exact hm
theorem Rch.go {t:List Int} {n u m:Nat} (h:Rch t n u m) (hu:u<n) (hm:(u:Int) ∉ t) (h0:0<u) (hp:(u:Int)-1 ∉ t):Rch t n (u+1) m:=by
 have hl:=h.le
 have hlt:u<m:=by
  by_cases c:u<m
  ·exact c
  ·have e:m=u:=by omega
   rcases h.ed (by omega) with q|⟨_,q⟩
   ·rw [e] at q;exact absurd q hm
   ·rcases q with q|q
    ·omega
    ·exact absurd q hp
 refine ⟨by omega,fun y h1 h2=>h.fr y (by omega) h2,fun q=>⟨by omega,?_⟩,fun q=>?_⟩
 ·rw [show ((u+1:Nat):Int)-1=(u:Int) by omega];exact hm
 ·rcases h.ed q with z|⟨z,_⟩
  ·exact .inl z
  ·omega
theorem Rch.new {t:List Int} {n u m v:Nat} (h:Rch t n u m) (hu:u<n) (hs:u=0 ∨ (u:Int)-1 ∈ t) (hv:u≤v∧v<n) (hf:∀ y:Nat,u≤y→y≤v→(y:Int) ∉ t) (he:v+1<n→((v+1:Nat):Int) ∈ t):m=u∧Rch t n (u+1) (v+1):=by
 have hl:=h.le
 have e:m=u:=by
  by_cases c:u<m
  ·have:=h.pr c
   rcases hs with q|q
   ·omega
   ·exact absurd q this.2
  ·omega
 refine ⟨e,by omega,fun y h1 h2=>hf y (by omega) (by omega),fun q=>⟨by omega,?_⟩,fun q=>.inl (he q)⟩
 rw [show ((u+1:Nat):Int)-1=(u:Int) by omega];exact hf u (Nat.le_refl _) hv.1
end Go.AM
