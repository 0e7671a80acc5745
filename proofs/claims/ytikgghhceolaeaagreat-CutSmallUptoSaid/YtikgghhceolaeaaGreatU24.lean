/-
  CutMost, walked.
-/
import Derived.Test.YtikgghhceolaeaaGreatU23
import Derived.Test.YtikgghhceolaeaaGreatU22
set_option linter.unusedSimpArgs false
set_option linter.unusedVariables false
namespace Go.AM
open Go.Proofs.Tryz
attribute [-go_sem] put_ne put_same
attribute [local go_sem ↓] put_if
set_option maxRecDepth 100000 in
set_option maxHeartbeats 8000000 in
theorem run_CutMost {base:Nat} {h:Heap} {v0:AVal} (hA0:RibN 1048576 h v0) :
  callL prog raw base (.fn 24 [] []) [v0] h=some (.bool true,h):=by
 obtain ⟨R,hA,-,-⟩:=hA0
 have hAA:=hA
 obtain ⟨fv,wv,rfl,hF,hW⟩:=hAA
 have o1:=hF.one
 have o2:=hW.one
 obtain ⟨G0,eG0⟩:∃ G0,G0=h++[ribB R.L fv wv]:=⟨_,rfl⟩
 have x0:Ext h G0:=by rw [eG0];exact .app .refl
 have g0:G0[h.length]?=some (ribB R.L fv wv):=by rw [eG0];exact get_eq rfl
 have lG0:G0.length=h.length+1:=by rw [eG0];simp
 have hg:=fun base=>run_wide (base:=base) (m:=40) (hA.ext x0)
 have haw:=fun base=>run_awake (base:=base) (h:=G0)
 unfold ribB at eG0
 have g0':=g0
 unfold ribB at g0'
 refine callL_run func24 rfl rfl ?_
 rcases Bool.eq_false_or_eq_true (decide (20<R.F.length ∨ 12<R.W.length) || (decide (40<R.L) && decide (R.L≤60))) with cg|cg
 ·rw [cg] at hg
  have hsp:=@Nat.succ_ne_zero;repeat' (first|simp (disch:=first|exact dq|fail) only [go_sem,↓reduceIte,hsp,← eG0,g0',hg,haw]|refine WP_drw ?_|refine cnd_intro (fun hsp=>?_) fun hsp=>?_)
  exact fB rfl x0
 ·rw [cg] at hg
  simp only [Bool.or_eq_false_iff,Bool.and_eq_false_iff,decide_eq_false_iff_not] at cg
  obtain ⟨_,G1,e1,x1,fw,ww,rfl,oF,oW⟩:=run_own (base:=h.length) (h:=G0) (by omega) (hA.ext x0) (by omega) (by omega)
  have l1:=x1.len
  obtain ⟨_,G2,e2,x2,aT,fw2,ww2,rfl,of2,ow2⟩:=run_theirs (base:=h.length) (h:=G1) (by omega) (hA.ext (x0.trans x1)) (by omega) (by omega)
  have l2:=x2.len
  have ofw:=oF.one
  have oww:=oW.one
  obtain ⟨G4,eG4⟩:∃ G4,G4=G2++[ribB R.L fw ww]++[rrbB R.L fw2 ww2]:=⟨_,rfl⟩
  have x4:Ext G2 G4:=by rw [eG4];exact .app (.app .refl)
  have l4:G4.length=G2.length+2:=by rw [eG4];simp
  have gO4:G4[G2.length]?=some (ribB R.L fw ww):=by rw [eG4];exact get_app (get_eq rfl)
  have gT4:G4[G2.length+1]?=some (rrbB R.L fw2 ww2):=by rw [eG4];exact get_eq (by simp)
  have x14:=x2.trans x4
  have xh4:Ext h G4:=(x0.trans x1).trans x14
  have aO4:RibAt G4 (.agg [.int .i64 R.L,fw,ww]) R:=⟨fw,ww,rfl,(ownE_ints oF ⟨by omega,hF.1.2⟩).ext x14,(oW.rows (by omega)).ext x14⟩
  have aT4:RibAt G4 (.agg [.int .i64 R.L,fw2,ww2]) R:=aT.ext x4
  have gc4:G4[h.length]?=some (ribB R.L fv wv):=(x1.trans x14).get g0
  have hck:=fun base=>run_rcheck (base:=base) aT4 (by omega) (by omega)
  have g01:=x1.get g0'
  obtain ⟨_,Z1,c1,z1,u1,rfl,oB⟩:=run_Best (base:=h.length) (h:=G4) (by omega) aO4 (by omega)
  have m1:=z1.len
  have ob:=oB.one
  obtain ⟨_,Z2,c2,z2,u2,rfl,oN⟩:=run_Fewest (base:=h.length) (h:=Z1) (by omega) (aO4.ext z1) (by omega)
  have m2:=z2.len
  have on:=oN.one
  have gO5:=z1.get gO4
  have gT6:=(z1.trans z2).get gT4
  unfold ribB rrbB at eG4
  unfold rrbB at gT4 gT6
  have gO4':=gO4
  unfold ribB at gO4' gO5
  by_cases c:chkR R=0
  ·have hok:=chkR_iff.1 c
   have hL:=hok.L
   rw [c] at hck c1 c2
   have her:=fun base=>run_earned (base:=base) (f:=0) aT4 hok (by omega)
   rw [Int.natCast_zero] at her
   have fb1:=folD_bd (b:=false) (x:=0) hok
   have fb2:=folD_bd (b:=true) (x:=0) hok
   obtain ⟨p1,n1⟩:=pthL_ok (b:=false) hok R.L.toNat 0 0 0 (by omega) (by omega) (by omega)
   obtain ⟨p2,n2⟩:=pthL_ok (b:=true) hok R.L.toNat 0 0 0 (by omega) (by omega) (by omega)
   rw [folD_e hok (by omega),Int.zero_add] at p1 p2
   have ea:allE R=valD R 0:=by unfold allE;rw [if_neg (fun q=>q c)]
   have eb1:bstE false R=pthL false R R.L.toNat 0:=by unfold bstE;rw [if_neg (fun q=>q c)]
   have eb2:bstE true R=pthL true R R.L.toNat 0:=by unfold bstE;rw [if_neg (fun q=>q c)]
   rw [ea] at c1
   rw [eb1] at oB
   rw [eb2] at oN
   have hln:=own_len oN Fc.el51 (by omega)
   rw [n2] at hln
   obtain ⟨d1,Z3,f1,y1,oD1⟩:=run_rcuts (base:=h.length) (h:=Z2) (by omega) ((oB.rows (by omega)).ext z2) (by omega)
   have k1:=y1.len
   have od1:=oD1.one
   have hp1:=fun base=>run_rplan (base:=base) (aT4.ext ((z1.trans z2).trans y1)) hok (oD1.rows (by omega))
   obtain ⟨d2,Z4,f2,y2,oD2⟩:=run_rcuts (base:=h.length) (h:=Z3) (by omega) ((oN.rows (by omega)).ext y1) (by omega)
   have k2:=y2.len
   have od2:=oD2.one
   have hp2:=fun base=>run_rplan (base:=base) (aT4.ext (((z1.trans z2).trans y1).trans y2)) hok (oD2.rows (by omega))
   rw [p1] at hp1
   rw [p2] at hp2
   have gT7:=y1.get gT6
   have gT8:=y2.get gT7
   have zz:=((z1.trans z2).trans y1).trans y2
   have q3:=fun base=>run_same (base:=base) (aO4.ext zz) (hA.ext (xh4.trans zz)) (by omega)
   have q5:=fun base=>run_awake (base:=base) (h:=Z4)
   have gO8:=zz.get gO4
   have gc8:=zz.get gc4
   unfold ribB at gO8 gc8
   have hsp:=@Nat.succ_ne_zero;repeat' (first|simp (disch:=first|exact dq|fail) only [go_sem,↓reduceIte,hsp,← eG0,g0',hg,e1,g01,e2,← eG4,gT4,hck,eq_self,her,gO4',c1,gO5,c2,ne_eq,not_true,decide_false,hln,gT6,f1,hp1,gT7,f2,hp2,gT8,gO8,gc8,q3,q5]|refine WP_drw ?_|refine cnd_intro (fun hsp=>?_) fun hsp=>?_)
   exact fB rfl (xh4.trans zz)
  ·have tu:(chkR R=0)=False:=eq_false c
   have ea:allE R=0:=by unfold allE;rw [if_pos c]
   have eb1:bstE false R=[]:=by unfold bstE;rw [if_pos c]
   have eb2:bstE true R=[]:=by unfold bstE;rw [if_pos c]
   rw [ea] at c1
   rw [eb1] at oB
   rw [eb2] at oN
   have hl1:=own_len (oB.ext z2) Fc.el51 (by simp)
   have hl2:=own_len oN Fc.el51 (by simp)
   have z0:((([]:List Ct).length:Nat):Int)=0:=rfl
   have tz:((0:Int) > 0)=False:=eq_false (by omega)
   rw [z0] at hl1 hl2
   have zz:=z1.trans z2
   have q3:=fun base=>run_same (base:=base) (aO4.ext zz) (hA.ext (xh4.trans zz)) (by omega)
   have q5:=fun base=>run_awake (base:=base) (h:=Z2)
   have gO8:=zz.get gO4
   have gc8:=zz.get gc4
   unfold ribB at gO8 gc8
   have hsp:=@Nat.succ_ne_zero;repeat' (first|simp (disch:=first|exact dq|fail) only [go_sem,↓reduceIte,hsp,← eG0,g0',hg,e1,g01,e2,← eG4,gT4,hck,eq_self,tu,gO4',c1,gO5,c2,ne_eq,not_true,not_false_eq_true,decide_false,decide_true,hl1,hl2,tz,gO8,gc8,q3,q5]|refine WP_drw ?_|refine cnd_intro (fun hsp=>?_) fun hsp=>?_)
   exact fB rfl (xh4.trans zz)
end Go.AM
namespace Go.AM
open Go.Proofs.Tryz
attribute [-go_sem] put_ne put_same
attribute [local go_sem ↓] put_if
def turR (R:Rib) (u:Int):Rib:=⟨R.L,turF R u,R.W⟩
def turN (R:Rib) (u:Int) (n:Nat):List Int:=(upto n).filter fun y=>decide (y ∈ R.F) != decide (y=u)
theorem turN_succ {R:Rib} {u:Int} {n:Nat}:turN R u (n+1)=turN R u n++if (decide ((n:Int) ∈ R.F) != decide ((n:Int)=u))=true then [(n:Int)] else []:=by
 unfold turN
 rw [upto_succ,List.filter_append,List.filter_cons,List.filter_nil]
theorem turN_len {R:Rib} {u:Int} {n:Nat}:(turN R u n).length≤n:=by
 unfold turN
 exact Nat.le_trans (List.length_filter_le _ _) (by rw [upto_len];exact Nat.le_refl _)
theorem turN_b {R:Rib} {u:Int} {n:Nat}:∀ y ∈ turN R u n,0≤y∧y<(n:Int):=fun y hy=>upto_mem.1 (List.mem_filter.1 hy).1
theorem nqB:(binA prog BinOp.neq 4 (.bool true) (.bool true)=some (.bool false)∧binA prog BinOp.neq 4 (.bool true) (.bool false)=some (.bool true))∧(binA prog BinOp.neq 4 (.bool false) (.bool true)=some (.bool true)∧binA prog BinOp.neq 4 (.bool false) (.bool false)=some (.bool false)):=⟨⟨by kernel_rfl,by kernel_rfl⟩,by kernel_rfl,by kernel_rfl⟩
set_option maxRecDepth 100000 in
set_option maxHeartbeats 4000000 in
theorem run_turned {base:Nat} {h:Heap} {v:AVal} {R:Rib} {u:Int} (hb:base≤h.length) (hA:RibAt h v R) (hR:RibOk R) :
  Ret prog raw base (.fn 152 [] []) [v,.int .i64 u] h (fun w H=>Ext h H∧RibAt H w (turR R u)∧∃ fw ww,w=.agg [.int .i64 R.L,fw,ww]∧One fw∧One ww):=by
 have hAe:=fun H (e:Ext h H)=>hA.ext e
 obtain ⟨fv,wv,rfl,hF,hW⟩:=hA
 have o1:=hF.one
 have o2:=hW.one
 have hL:=hR.L
 have hnF:=hR.nF
 obtain ⟨n,en⟩:=Int.eq_ofNat_of_zero_le (show 0≤R.L by omega)
 have en':R.L.toNat=n:=by omega
 obtain ⟨G1,eG1⟩:∃ G1,G1=h++[rrbB R.L fv wv]++[rrbB 0 (.slice none 0 0) (.slice none 0 0)]:=⟨_,rfl⟩
 have x1:Ext h G1:=by rw [eG1];exact .app (.app .refl)
 have l1:G1.length=h.length+1+1:=by rw [eG1];simp
 have g0:G1[h.length]?=some (rrbB R.L fv wv):=by rw [eG1];exact get_app (get_eq rfl)
 have g1:G1[h.length+1]?=some (rrbB 0 (.slice none 0 0) (.slice none 0 0)):=by rw [eG1];exact get_eq (by simp)
 obtain ⟨G,eG⟩:∃ G,G=G1++[rrbB R.L (.slice none 0 0) wv]:=⟨_,rfl⟩
 have xG:Ext G1 G:=by rw [eG];exact .app .refl
 have lG:G.length=h.length+3:=by rw [eG];simp [l1]
 have g2:G[G1.length]?=some (rrbB R.L (.slice none 0 0) wv):=by rw [eG];exact get_eq rfl
 unfold rrbB at eG1 eG
 have g0':=g0
 unfold rrbB at g0'
 refine ret_raw func152 rfl (by kernel_rfl) ?_
 have hsp:=@Nat.succ_ne_zero;repeat' (first|simp (disch:=first|exact dq|fail) only [go_sem,↓reduceIte,hsp,← eG1,g0',← eG]|refine WP_drw ?_|refine cnd_intro (fun hsp=>?_) fun hsp=>?_)
 refine WP_count [(6,30)] 0 n (Nat.zero_le _) (fun _ i fr K=>fr 6=.int .i64 (i:Int)∧Ext G1 K∧G.length≤K.length∧∃ w,K[G1.length]?=some (rrbB R.L w wv)∧Own encI 3 G.length K w (turN R u i)) ?_ ?_ ?_
 ·exact ⟨by (simp (disch:=first|exact dq|fail) only [go_sem,↓reduceIte,Int.natCast_zero];first|done|rfl),xG,by omega,.slice none 0 0,g2,Own.nil⟩
 ·rintro i fr K hi0 hi hAg ⟨r6,xK,lK,w,gK,oW⟩
  have q1:=hAg 1 rfl
  have q2:=hAg 2 rfl
  have q4:=hAg 4 rfl
  have q5:=hAg 5 rfl
  try simp (disch:=first|exact dq|fail) only [go_sem,↓reduceIte] at q1 q2 q4 q5
  have hlt:((i:Int)<R.L)=True:=eq_true (by omega)
  have g0K:=xK.get g0'
  have ow:=oW.one
  have htl:=turN_len (R:=R) (u:=u) (n:=i)
  have hfa:=fun base=>run_fault (base:=base) (u:=(i:Int)) (hAe K (x1.trans xK)) (by omega)
  have hsuc:=turN_succ (R:=R) (u:=u) (n:=i)
  unfold rrbB at gK
  by_cases c1:(i:Int) ∈ R.F
  ·rw [decide_eq_true c1] at hfa hsuc
   by_cases c2:(i:Int)=u
   ·have t2:((i:Int)=u)=True:=eq_true c2
    rw [decide_eq_true c2,if_neg (by simp),List.append_nil] at hsuc
    have hsp:=@Nat.succ_ne_zero;repeat' (first|simp (disch:=first|exact dq|fail) only [go_sem,↓reduceIte,hsp,r6,q1,q2,q4,q5,g0K,hlt,hfa,t2,nqB.1.1,nqB.1.2,nqB.2.1,nqB.2.2]|refine WP_drw ?_|refine cnd_intro (fun hsp=>?_) fun hsp=>?_)
    exact ⟨agq,by omega,xK,lK,w,gK,by rw [hsuc];exact oW⟩
   ·have t2:((i:Int)=u)=False:=eq_false c2
    rw [decide_eq_false c2,if_pos (show (true != false)=true from rfl)] at hsuc
    obtain ⟨w',K2,ea,oW',lW,eW,oneW,kW⟩:=oW.append1X (P:=prog) (y:=(i:Int)) (a:=.int .i64 (i:Int)) (base:=base) (t:=32) rfl rfl Fc.el32 encI_sc (by omega) (by omega) (by omega)
    have kW:KeepO encI 3 K K2:=kW
    have gK5:=kW.box gK
    have hsp:=@Nat.succ_ne_zero;repeat' (first|simp (disch:=first|exact dq|fail) only [go_sem,↓reduceIte,hsp,r6,q1,q2,q4,q5,g0K,hlt,hfa,t2,nqB.1.1,nqB.1.2,nqB.2.1,nqB.2.2,gK,ea,gK5]|refine WP_drw ?_|refine cnd_intro (fun hsp=>?_) fun hsp=>?_)
    exact ⟨agq,by omega,(eW G1 (by omega) xK).set (by omega),by omega,w',rfl,by rw [hsuc];exact oW'.setBox gK5⟩
  ·rw [decide_eq_false c1] at hfa hsuc
   by_cases c2:(i:Int)=u
   ·have t2:((i:Int)=u)=True:=eq_true c2
    rw [decide_eq_true c2,if_pos (show (false != true)=true from rfl)] at hsuc
    obtain ⟨w',K2,ea,oW',lW,eW,oneW,kW⟩:=oW.append1X (P:=prog) (y:=(i:Int)) (a:=.int .i64 (i:Int)) (base:=base) (t:=32) rfl rfl Fc.el32 encI_sc (by omega) (by omega) (by omega)
    have kW:KeepO encI 3 K K2:=kW
    have gK5:=kW.box gK
    have hsp:=@Nat.succ_ne_zero;repeat' (first|simp (disch:=first|exact dq|fail) only [go_sem,↓reduceIte,hsp,r6,q1,q2,q4,q5,g0K,hlt,hfa,t2,nqB.1.1,nqB.1.2,nqB.2.1,nqB.2.2,gK,ea,gK5]|refine WP_drw ?_|refine cnd_intro (fun hsp=>?_) fun hsp=>?_)
    exact ⟨agq,by omega,(eW G1 (by omega) xK).set (by omega),by omega,w',rfl,by rw [hsuc];exact oW'.setBox gK5⟩
   ·have t2:((i:Int)=u)=False:=eq_false c2
    rw [decide_eq_false c2,if_neg (by simp),List.append_nil] at hsuc
    have hsp:=@Nat.succ_ne_zero;repeat' (first|simp (disch:=first|exact dq|fail) only [go_sem,↓reduceIte,hsp,r6,q1,q2,q4,q5,g0K,hlt,hfa,t2,nqB.1.1,nqB.1.2,nqB.2.1,nqB.2.2]|refine WP_drw ?_|refine cnd_intro (fun hsp=>?_) fun hsp=>?_)
    exact ⟨agq,by omega,xK,lK,w,gK,by rw [hsuc];exact oW⟩
 ·rintro fr K hAg ⟨r6,xK,lK,w,gK,oW⟩
  have q1:=hAg 1 rfl
  have q2:=hAg 2 rfl
  have q4:=hAg 4 rfl
  have q5:=hAg 5 rfl
  try simp (disch:=first|exact dq|fail) only [go_sem,↓reduceIte] at q1 q2 q4 q5
  have hlt:((n:Int)<R.L)=False:=eq_false (by omega)
  have g0K:=xK.get g0'
  have g1K:=xK.get g1
  have ow:=oW.one
  unfold rrbB at gK g1K
  have hsp:=@Nat.succ_ne_zero;repeat' (first|simp (disch:=first|exact dq|fail) only [go_sem,↓reduceIte,hsp,r6,q1,q2,q4,q5,g0K,hlt,gK,g1K]|refine WP_drw ?_|refine cnd_intro (fun hsp=>?_) fun hsp=>?_)
  have oW2:=oW.setBox (k:=⟨.cells [.int .i64 R.L,w,wv] 123 false false,0⟩) g1K
  have xf:Ext h (K.set (h.length+1) ⟨.cells [.int .i64 R.L,w,wv] 123 false false,0⟩):=(x1.trans xK).set (by omega)
  have htl:=turN_len (R:=R) (u:=u) (n:=n)
  have etf:turF R u=turN R u n:=by unfold turF turN;rw [en']
  refine ⟨xf,⟨w,wv,rfl,?_,hW.ext xf⟩,w,wv,rfl,ow,o2⟩
  show Ints _ w (turF R u)
  rw [etf]
  exact own_ints oW2 ⟨by omega,fun y hy=>by have:=turN_b y hy;omega⟩
end Go.AM
namespace Go.AM
open Go.Proofs.Tryz
attribute [-go_sem] put_ne put_same
attribute [local go_sem ↓] put_if
theorem tur_addR {R:Rib} (hR:RibOk R) {u:Int} (hu:0≤u∧u≤R.L-1) (hn:u ∉ R.F):turR R u=addR R u:=by
 unfold turR addR;rw [tur_add hR hu hn]
theorem tur_delR {R:Rib} (hR:RibOk R) {u:Int} (hu:u ∈ R.F):turR R u=delR R u:=by
 unfold turR;rw [tur_del hR hu];rfl
theorem val_b {R:Rib} (hR:RibOk R):0≤valD R 0∧valD R 0≤6000:=by
 have:=folD_bd (b:=false) (x:=0) hR
 rw [folD_e hR (by omega)] at this
 omega
set_option maxRecDepth 100000 in
set_option maxHeartbeats 4000000 in
theorem run_changed {base:Nat} {h:Heap} {v:AVal} {R:Rib} {u:Int} (hA:RibAt h v R) (hR:RibOk R) (hT:RibOk (turR R u)) :
  callL prog raw base (.fn 133 [] []) [v,.int .i64 u] h=some (.int .i64 (valD (turR R u) 0-valD R 0),h):=by
 have hAe:=fun H (e:Ext h H)=>hA.ext e
 obtain ⟨fv,wv,rfl,hF,hW⟩:=hA
 have o1:=hF.one
 have o2:=hW.one
 obtain ⟨G0,eG0⟩:∃ G0,G0=h++[rrbB R.L fv wv]:=⟨_,rfl⟩
 have x0:Ext h G0:=by rw [eG0];exact .app .refl
 have g0:G0[h.length]?=some (rrbB R.L fv wv):=by rw [eG0];exact get_eq rfl
 have l0:G0.length=h.length+1:=by rw [eG0];simp
 have he:=fun base=>run_earned (base:=base) (f:=0) (hAe G0 x0) hR (by omega)
 obtain ⟨_,G1,e1,x1,aT,fw,ww,rfl,ofw,oww⟩:=run_turned (base:=h.length) (h:=G0) (u:=u) (by omega) (hAe G0 x0) hR
 have ht:=fun base=>run_earned (base:=base) (f:=0) aT hT (by omega)
 rw [Int.natCast_zero] at he ht
 have g1:=x1.get g0
 have b1:=val_b hR
 have b2:=val_b hT
 obtain ⟨a,ea⟩:∃ a,a=valD (turR R u) 0:=⟨_,rfl⟩
 obtain ⟨c,ec⟩:∃ c,c=valD R 0:=⟨_,rfl⟩
 rw [← ea] at ht b2 ⊢
 rw [← ec] at he b1 ⊢
 unfold rrbB at eG0 g0 g1
 refine callL_run func133 rfl rfl ?_
 have hsp:=@Nat.succ_ne_zero;repeat' (first|simp (disch:=first|exact dq|fail) only [go_sem,↓reduceIte,hsp,← eG0,g0,he,e1,g1,ht]|refine WP_drw ?_|refine cnd_intro (fun hsp=>?_) fun hsp=>?_)
 exact fI rfl (x0.trans x1)
set_option maxRecDepth 100000 in
set_option maxHeartbeats 4000000 in
theorem run_rdamage {base:Nat} {h:Heap} {v:AVal} {R:Rib} {u:Int} (hA:RibAt h v R) (hR:RibOk R) :
  callL prog raw base (.fn 71 [] []) [v,.int .i64 u] h=some (.tuple [.int .i64 (dmgL R u).1,.int .i64 (dmgL R u).2],h):=by
 have hAe:=fun H (e:Ext h H)=>hA.ext e
 obtain ⟨fv,wv,rfl,hF,hW⟩:=hA
 have o1:=hF.one
 have o2:=hW.one
 have hL:=hR.L
 have hnF:=hR.nF
 obtain ⟨G0,eG0⟩:∃ G0,G0=h++[rrbB R.L fv wv]:=⟨_,rfl⟩
 have x0:Ext h G0:=by rw [eG0];exact .app .refl
 have g0:G0[h.length]?=some (rrbB R.L fv wv):=by rw [eG0];exact get_eq rfl
 have hof:=fun base=>run_off (base:=base) (h:=G0) (n:=u) (lo:=0) (hi:=R.L-1)
 have hfa:=fun base=>run_fault (base:=base) (u:=u) (hAe G0 x0) (by omega)
 have hn:=lenI (hF.ext x0)
 unfold rrbB at eG0 g0
 refine callL_run func71 rfl rfl ?_
 by_cases c1:0≤u∧u≤R.L-1
 ·rw [decide_eq_true c1] at hof
  by_cases c2:u ∈ R.F
  ·rw [decide_eq_true c2] at hfa
   rw [show dmgL R u=(0,5) by unfold dmgL;rw [if_neg (fun q=>q c1),if_pos c2]]
   have hsp:=@Nat.succ_ne_zero;repeat' (first|simp (disch:=first|exact dq|fail) only [go_sem,↓reduceIte,hsp,← eG0,g0,hof,Bool.not_true,hfa]|refine WP_drw ?_|refine cnd_intro (fun hsp=>?_) fun hsp=>?_)
   exact fin_pl rfl rfl x0
  ·rw [decide_eq_false c2] at hfa
   by_cases c3:(R.F.length:Int)=12
   ·have t3:((R.F.length:Int)=12)=True:=eq_true c3
    rw [show dmgL R u=(0,9) by unfold dmgL;rw [if_neg (fun q=>q c1),if_neg c2,if_pos c3]]
    have hsp:=@Nat.succ_ne_zero;repeat' (first|simp (disch:=first|exact dq|fail) only [go_sem,↓reduceIte,hsp,← eG0,g0,hof,Bool.not_true,hfa,hn,t3]|refine WP_drw ?_|refine cnd_intro (fun hsp=>?_) fun hsp=>?_)
    exact fin_pl rfl rfl x0
   ·have t3:((R.F.length:Int)=12)=False:=eq_false c3
    have hT:RibOk (turR R u):=by rw [tur_addR hR c1 c2];exact hR.add c1 c2 (by omega)
    have hch:=fun base=>run_changed (base:=base) (u:=u) (hAe G0 x0) hR hT
    have b1:=val_b hR
    have b2:=val_b hT
    rw [tur_addR hR c1 c2] at hch b2
    rw [show dmgL R u=(valD R 0-valD (addR R u) 0,0) by unfold dmgL;rw [if_neg (fun q=>q c1),if_neg c2,if_neg c3]]
    obtain ⟨a,ea⟩:∃ a,a=valD (addR R u) 0:=⟨_,rfl⟩
    obtain ⟨c,ec⟩:∃ c,c=valD R 0:=⟨_,rfl⟩
    rw [← ea,← ec] at hch
    rw [← ea] at b2 ⊢
    rw [← ec] at b1 ⊢
    have hsp:=@Nat.succ_ne_zero;repeat' (first|simp (disch:=first|exact dq|fail) only [go_sem,↓reduceIte,hsp,← eG0,g0,hof,Bool.not_true,hfa,hn,t3,hch]|refine WP_drw ?_|refine cnd_intro (fun hsp=>?_) fun hsp=>?_)
    exact fin_pl (by rw [show 0-(a-c)=c-a by omega]) rfl x0
 ·rw [decide_eq_false c1] at hof
  rw [show dmgL R u=(0,1) by unfold dmgL;rw [if_pos c1]]
  have hsp:=@Nat.succ_ne_zero;repeat' (first|simp (disch:=first|exact dq|fail) only [go_sem,↓reduceIte,hsp,← eG0,g0,hof,Bool.not_false]|refine WP_drw ?_|refine cnd_intro (fun hsp=>?_) fun hsp=>?_)
  exact fin_pl rfl rfl x0
set_option maxRecDepth 100000 in
set_option maxHeartbeats 4000000 in
theorem run_rmended {base:Nat} {h:Heap} {v:AVal} {R:Rib} {u:Int} (hA:RibAt h v R) (hR:RibOk R) :
  callL prog raw base (.fn 72 [] []) [v,.int .i64 u] h=some (.tuple [.int .i64 (menL R u).1,.int .i64 (menL R u).2],h):=by
 have hAe:=fun H (e:Ext h H)=>hA.ext e
 obtain ⟨fv,wv,rfl,hF,hW⟩:=hA
 have o1:=hF.one
 have o2:=hW.one
 have hL:=hR.L
 have hnF:=hR.nF
 obtain ⟨G0,eG0⟩:∃ G0,G0=h++[rrbB R.L fv wv]:=⟨_,rfl⟩
 have x0:Ext h G0:=by rw [eG0];exact .app .refl
 have g0:G0[h.length]?=some (rrbB R.L fv wv):=by rw [eG0];exact get_eq rfl
 have hof:=fun base=>run_off (base:=base) (h:=G0) (n:=u) (lo:=0) (hi:=R.L-1)
 have hfa:=fun base=>run_fault (base:=base) (u:=u) (hAe G0 x0) (by omega)
 unfold rrbB at eG0 g0
 refine callL_run func72 rfl rfl ?_
 by_cases c1:0≤u∧u≤R.L-1
 ·rw [decide_eq_true c1] at hof
  by_cases c2:u ∈ R.F
  ·rw [decide_eq_true c2] at hfa
   have hT:RibOk (turR R u):=by rw [tur_delR hR c2];exact hR.del c2
   have hch:=fun base=>run_changed (base:=base) (u:=u) (hAe G0 x0) hR hT
   rw [tur_delR hR c2] at hch
   rw [show menL R u=(valD (delR R u) 0-valD R 0,0) by unfold menL;rw [if_neg (fun q=>q c1),if_pos c2]]
   have hsp:=@Nat.succ_ne_zero;repeat' (first|simp (disch:=first|exact dq|fail) only [go_sem,↓reduceIte,hsp,← eG0,g0,hof,Bool.not_true,hfa,hch]|refine WP_drw ?_|refine cnd_intro (fun hsp=>?_) fun hsp=>?_)
   exact fin_pl rfl rfl x0
  ·rw [decide_eq_false c2] at hfa
   rw [show menL R u=(0,6) by unfold menL;rw [if_neg (fun q=>q c1),if_neg c2]]
   have hsp:=@Nat.succ_ne_zero;repeat' (first|simp (disch:=first|exact dq|fail) only [go_sem,↓reduceIte,hsp,← eG0,g0,hof,Bool.not_true,Bool.not_false,hfa]|refine WP_drw ?_|refine cnd_intro (fun hsp=>?_) fun hsp=>?_)
   exact fin_pl rfl rfl x0
 ·rw [decide_eq_false c1] at hof
  rw [show menL R u=(0,1) by unfold menL;rw [if_pos c1]]
  have hsp:=@Nat.succ_ne_zero;repeat' (first|simp (disch:=first|exact dq|fail) only [go_sem,↓reduceIte,hsp,← eG0,g0,hof,Bool.not_false]|refine WP_drw ?_|refine cnd_intro (fun hsp=>?_) fun hsp=>?_)
  exact fin_pl rfl rfl x0
end Go.AM
namespace Go.AM
open Go.Proofs.Tryz Go.RowKit Go.ChangeShapes Go.WideShapes Go.ChangeAt
open Go.Proofs.YtikgghhceolaeaaGreat (Rows.uptoSmall Rows.uptoBulkAll Rows.uptoBulk)
set_option maxRecDepth 100000
def IntW (_:Heap) (v:AVal):Prop:=∃ n:Int,v=.int .i64 n∧-9223372036854775808≤n∧n<9223372036854775808
end Go.AM
namespace Go.AM
open Go.Proofs.Tryz
attribute [-go_sem] put_ne put_same
attribute [local go_sem ↓] put_if
set_option maxRecDepth 100000 in
set_option maxHeartbeats 8000000 in
theorem run_CutFaults {base:Nat} {h:Heap} {v0 v1:AVal} (hA0:RibN 1048576 h v0) (hu0:IntW h v1) :
  callL prog raw base (.fn 25 [] []) [v0,v1] h=some (.bool true,h):=by
 obtain ⟨R,hA,-,-⟩:=hA0
 obtain ⟨u,rfl,hu1,hu2⟩:=hu0
 have hAA:=hA
 obtain ⟨fv,wv,rfl,hF,hW⟩:=hAA
 have o1:=hF.one
 have o2:=hW.one
 obtain ⟨G0,eG0⟩:∃ G0,G0=h++[ribB R.L fv wv]:=⟨_,rfl⟩
 have x0:Ext h G0:=by rw [eG0];exact .app .refl
 have g0:G0[h.length]?=some (ribB R.L fv wv):=by rw [eG0];exact get_eq rfl
 have lG0:G0.length=h.length+1:=by rw [eG0];simp
 have hg:=fun base=>run_wide (base:=base) (m:=40) (hA.ext x0)
 have haw:=fun base=>run_awake (base:=base) (h:=G0)
 unfold ribB at eG0
 have g0':=g0
 unfold ribB at g0'
 refine callL_run func25 rfl rfl ?_
 rcases Bool.eq_false_or_eq_true (decide (20<R.F.length ∨ 12<R.W.length) || (decide (40<R.L) && decide (R.L≤60))) with cg|cg
 ·rw [cg] at hg
  have hsp:=@Nat.succ_ne_zero;repeat' (first|simp (disch:=first|exact dq|fail) only [go_sem,↓reduceIte,hsp,← eG0,g0',hg,haw]|refine WP_drw ?_|refine cnd_intro (fun hsp=>?_) fun hsp=>?_)
  exact fB rfl x0
 ·rw [cg] at hg
  simp only [Bool.or_eq_false_iff,Bool.and_eq_false_iff,decide_eq_false_iff_not] at cg
  obtain ⟨_,G1,e1,x1,fw,ww,rfl,oF,oW⟩:=run_own (base:=h.length) (h:=G0) (by omega) (hA.ext x0) (by omega) (by omega)
  have l1:=x1.len
  obtain ⟨_,G2,e2,x2,aT,fw2,ww2,rfl,of2,ow2⟩:=run_theirs (base:=h.length) (h:=G1) (by omega) (hA.ext (x0.trans x1)) (by omega) (by omega)
  have l2:=x2.len
  have ofw:=oF.one
  have oww:=oW.one
  obtain ⟨G4,eG4⟩:∃ G4,G4=G2++[ribB R.L fw ww]++[rrbB R.L fw2 ww2]:=⟨_,rfl⟩
  have x4:Ext G2 G4:=by rw [eG4];exact .app (.app .refl)
  have l4:G4.length=G2.length+2:=by rw [eG4];simp
  have gO4:G4[G2.length]?=some (ribB R.L fw ww):=by rw [eG4];exact get_app (get_eq rfl)
  have gT4:G4[G2.length+1]?=some (rrbB R.L fw2 ww2):=by rw [eG4];exact get_eq (by simp)
  have x14:=x2.trans x4
  have xh4:Ext h G4:=(x0.trans x1).trans x14
  have aO4:RibAt G4 (.agg [.int .i64 R.L,fw,ww]) R:=⟨fw,ww,rfl,(ownE_ints oF ⟨by omega,hF.1.2⟩).ext x14,(oW.rows (by omega)).ext x14⟩
  have aT4:RibAt G4 (.agg [.int .i64 R.L,fw2,ww2]) R:=aT.ext x4
  have gc4:G4[h.length]?=some (ribB R.L fv wv):=(x1.trans x14).get g0
  have hck:=fun base=>run_rcheck (base:=base) aT4 (by omega) (by omega)
  have g01:=x1.get g0'
  have cd:=fun base=>run_Damage (base:=base) (u:=u) aO4 (by omega) ⟨hu1,hu2⟩
  have cm:=fun base=>run_Mended (base:=base) (u:=u) aO4 (by omega)
  have q3:=fun base=>run_same (base:=base) aO4 (hA.ext xh4) (by omega)
  have q5:=fun base=>run_awake (base:=base) (h:=G4)
  unfold ribB rrbB at eG4
  unfold rrbB at gT4
  unfold ribB at gO4 gc4
  by_cases c:chkR R=0
  ·have hok:=chkR_iff.1 c
   rw [c] at hck
   have rd:=fun base=>run_rdamage (base:=base) (u:=u) aT4 hok
   have rm:=fun base=>run_rmended (base:=base) (u:=u) aT4 hok
   have ed:dmgE R u=dmgL R u:=by unfold dmgE;rw [if_neg (fun q=>q c)]
   have em:menE R u=menL R u:=by unfold menE;rw [if_neg (fun q=>q c)]
   rw [ed] at cd
   rw [em] at cm
   have hsp:=@Nat.succ_ne_zero;repeat' (first|simp (disch:=first|exact dq|fail) only [go_sem,↓reduceIte,hsp,← eG0,g0',hg,e1,g01,e2,← eG4,gT4,hck,eq_self,rd,rm,gO4,cd,cm,decide_true,gc4,q3,q5]|refine WP_drw ?_|refine cnd_intro (fun hsp=>?_) fun hsp=>?_)
   exact fB rfl xh4
  ·have tu:(chkR R=0)=False:=eq_false c
   have ed:dmgE R u=(0,chkR R):=by unfold dmgE;rw [if_pos c]
   have em:menE R u=(0,chkR R):=by unfold menE;rw [if_pos c]
   rw [ed] at cd
   rw [em] at cm
   have hsp:=@Nat.succ_ne_zero;repeat' (first|simp (disch:=first|exact dq|fail) only [go_sem,↓reduceIte,hsp,← eG0,g0',hg,e1,g01,e2,← eG4,gT4,hck,eq_self,tu,gO4,cd,cm,decide_true,gc4,q3,q5]|refine WP_drw ?_|refine cnd_intro (fun hsp=>?_) fun hsp=>?_)
   exact fB rfl xh4
end Go.AM
namespace Go.AM
open Go.Proofs.Tryz
attribute [-go_sem] put_ne put_same
attribute [local go_sem ↓] put_if
structure Hld (R:Rib) (V:List Int):Prop where
 up:∀ x,x<R.L.toNat→V.getD (x+1) 0≤V.getD x 0
 cut:∀ x,x<R.L.toNat→∀ c ∈ cutL R x,c.2.2+V.getD c.2.1.toNat 0≤V.getD x 0
 fin:0≤V.getD R.L.toNat 0
abbrev boB (b:Bool):ABlk:=⟨.cells [.bool b] 4 false false,0⟩
set_option maxRecDepth 100000 in
set_option maxHeartbeats 4000000 in
theorem run_holds {base id:Nat} {h:Heap} {R:Rib} {V:List Int} {b:Bool} (hD:DskAt h id R) (hR:RibOk R) (hV:V.length=61) (hvb:∀ y,-10000≤V.getD y 0∧V.getD y 0≤10000) (hb:b=true ↔ Hld R V) :
  callL prog raw base (.fn 135 [] []) [.ptr (some ⟨id,0,0⟩),.agg (ints V)] h=some (.bool b,h):=by
 have hDe:=fun H (e:Ext h H)=>hD.ext e
 obtain ⟨fv,wv,gd,hF,hW⟩:=hD
 have hL:=hR.L
 have lid:=lt_of_get gd
 have dL:=fun z=>dsk_ld0 (L:=R.L) (fv:=fv) (wv:=wv) (F:=R.F) (z:=z)
 obtain ⟨G,eG⟩:∃ G,G=h++[valBk V]++[boB false]:=⟨_,rfl⟩
 have xG:Ext h G:=by rw [eG];exact .app (.app .refl)
 have g0:G[h.length]?=some (valBk V):=by rw [eG];exact get_app (get_eq rfl)
 have g1:G[h.length+1]?=some (boB false):=by rw [eG];exact get_eq (by simp)
 have lG:G.length=h.length+2:=by rw [eG];simp
 have gdG:=xG.get gd
 unfold valBk boB at eG
 refine callL_run func135 rfl rfl ?_
 have hsp:=@Nat.succ_ne_zero;repeat' (first|simp (disch:=first|exact dq|fail) only [go_sem,↓reduceIte,hsp,gd,dL,← eG,gdG]|refine WP_drw ?_|refine cnd_intro (fun hsp=>?_) fun hsp=>?_)
 refine WP_count [(5,7),(13,26),(29,40)] 0 R.L.toNat (Nat.zero_le _) (fun _ x fr H=>fr 13=.int .i64 (x:Int)∧Ext h H∧h.length+2≤H.length∧H[h.length]?=some (valBk V)∧H[h.length+1]?=some (boB false)∧∀ y,y<x→V.getD (y+1) 0≤V.getD y 0∧∀ c ∈ cutL R y,c.2.2+V.getD c.2.1.toNat 0≤V.getD y 0) ?_ ?_ ?_
 ·exact ⟨by (simp (disch:=first|exact dq|fail) only [go_sem,↓reduceIte,Int.natCast_zero];first|done|rfl),xG,by omega,g0,g1,fun y hy=>by omega⟩
 ·rintro x fr H hx0 hx hA ⟨r13,xH,lH,gv,gb,hpre⟩
  have p0:=hA 0 rfl
  have p3:=hA 3 rfl
  have p4:=hA 4 rfl
  have p12:=hA 12 rfl
  try simp (disch:=first|exact dq|fail) only [go_sem,↓reduceIte] at p0 p3 p4 p12
  have hlt:((x:Int)<R.L)=True:=eq_true (by omega)
  have gdH:=xH.get gd
  obtain ⟨K1,eK1⟩:∃ K1,K1=H++[nB (x:Int)]:=⟨_,rfl⟩
  have y1:Ext H K1:=by rw [eK1];exact .app .refl
  have lK1:K1.length=H.length+1:=by rw [eK1];simp
  have gn1:K1[H.length]?=some (nB (x:Int)):=by rw [eK1];exact get_eq rfl
  have gv1:=y1.get gv
  have gb1:=y1.get gb
  have xK1:=xH.trans y1
  have ex1:((x:Int)+1).toNat=x+1:=by omega
  have ld1:∀ z,ldB (some (false,z)) (some (valBk V)) 0 x=some (.int .i64 (V.getD x 0)):=fun z=>ldB_ints (by omega)
  have ld2:∀ z,ldB (some (false,z)) (some (valBk V)) 0 (x+1)=some (.int .i64 (V.getD (x+1) 0)):=fun z=>ldB_ints (by omega)
  have bx1:=hvb x
  obtain ⟨vx,evx⟩:∃ vx,vx=V.getD x 0:=⟨_,rfl⟩
  obtain ⟨vy,evy⟩:∃ vy,vy=V.getD (x+1) 0:=⟨_,rfl⟩
  rw [← evx] at ld1 bx1
  rw [← evy] at ld2
  have gn1':=gn1
  have gv1':=gv1
  have gb1':=gb1
  unfold nB at eK1 gn1'
  unfold valBk at gv1' ld1 ld2
  unfold boB at gb1'
  by_cases c1:vx<vy
  ·have t1:(vx<vy)=True:=eq_true c1
   have hbf:b=false:=by
    cases b with
    | false=>rfl
    | true=>have:=(hb.1 rfl).up x hx;rw [← evx,← evy] at this;omega
   subst hbf
   have hsp:=@Nat.succ_ne_zero;repeat' (first|simp (disch:=first|exact dq|fail) only [go_sem,↓reduceIte,hsp,r13,p0,p3,p4,p12,hlt,← eK1,gn1',gv1',ex1,ld1,ld2,t1,gb1']|refine WP_drw ?_|refine cnd_intro (fun hsp=>?_) fun hsp=>?_)
   exact fB rfl (xK1.set (by omega))
  ·have t1:(vx<vy)=False:=eq_false c1
   obtain ⟨w3,H3,e3,rfl,eH3⟩:=run_cuts (base:=h.length) (id:=id) (x:=x) (h:=K1)
   have x3:Ext K1 H3:=by rw [eH3];exact .app (.app .refl)
   have l3:H3.length=K1.length+2:=by rw [eH3];simp
   have gdb:H3[K1.length]?=some (pB id):=by rw [eH3];exact get_app (get_eq rfl)
   have gfb:H3[K1.length+1]?=some (nB (x:Int)):=by rw [eH3];exact get_eq (by simp)
   have hsp:=@Nat.succ_ne_zero;repeat' (first|simp (disch:=first|exact dq|fail) only [go_sem,↓reduceIte,hsp,r13,p0,p3,p4,p12,hlt,← eK1,gn1',gv1',ex1,ld1,ld2,t1,gb1',e3]|refine WP_drw ?_|refine cnd_intro (fun hsp=>?_) fun hsp=>?_)
   refine WP_rangeX (by simp (disch:=first|exact dq|fail) only [go_sem,↓reduceIte]) (N:=(cutL R x).length) (X:=XC R x) (pr:=prT) (fun j K=>H3.length+1≤K.length∧Ext h K∧K[H.length]?=some (nB (x:Int))∧K[K1.length]?=some (pB id)∧K[K1.length+1]?=some (nB (x:Int))∧K[h.length]?=some (valBk V)∧K[h.length+1]?=some (boB false)∧∀ c ∈ (cutL R x).take j,c.2.2+V.getD c.2.1.toNat 0≤vx) (fun e K=>e=.ret∧Ext h K∧K[h.length+1]?=some (boB false)∧h.length+2≤K.length∧h.length+2≤H3.length∧b=false)
    (cuts_yields (id:=id) (db:=K1.length) (fb:=K1.length+1) (by omega) hR hx (fun j K q=>⟨hDe K q.2.1,q.2.2.2.1,q.2.2.2.2.1⟩)) ?_ ?_ ?_ ?_ ?_ ?_ ?_ ?_
   ·rintro j d K ⟨c,_,rfl⟩;rfl
   ·rintro j K T ⟨i1,i2,i3,i4,i5,i6,i7,i8⟩
    exact ⟨by simp;omega,i2.trans (.app .refl),get_app i3,get_app i4,get_app i5,get_app i6,get_app i7,i8⟩
   ·rintro j K B ⟨i1,i2,i3,i4,i5,i6,i7,i8⟩
    exact ⟨by simpa using i1,i2.set (by omega),by rw [List.getElem?_set_ne (by omega)];exact i3,by rw [List.getElem?_set_ne (by omega)];exact i4,by rw [List.getElem?_set_ne (by omega)];exact i5,by rw [List.getElem?_set_ne (by omega)];exact i6,by rw [List.getElem?_set_ne (by omega)];exact i7,i8⟩
   ·rintro e K B ⟨q0,q1,q2,q3,q4,q5⟩
    exact ⟨q0,q1.set (by omega),by rw [List.getElem?_set_ne (by omega)];exact q2,by rw [List.length_set];exact q3,q4,q5⟩
   ·exact ⟨by simp,(xK1.trans x3).trans (.app .refl),get_app (x3.get gn1),get_app gdb,get_app gfb,get_app (x3.get gv1),get_app (x3.get gb1),by simp⟩
   ·rintro j d K B1 B2 hj ⟨c,hc,rfl⟩ ⟨i1,i2,i3,i4,i5,i6,i7,i8⟩ hKl hB
    have hcm:=List.mem_of_getElem? hc
    have hcb:=(cutL_b hR hx hcm).1
    have htk:(cutL R x).take (j+1)=(cutL R x).take j++[c]:=by rw [List.take_add_one,hc];rfl
    obtain ⟨⟨cw,cf,cj⟩,ce,cp⟩:=c
    dsimp only at hcb
    obtain ⟨e,rfl⟩:=Int.eq_ofNat_of_zero_le (show 0≤ce by omega)
    obtain ⟨L1,eL1⟩:∃ L1,L1=K.set H3.length B2:=⟨_,rfl⟩
    have lL1:L1.length=K.length:=by rw [eL1,List.length_set]
    obtain ⟨L2,eL2⟩:∃ L2,L2=L1++[wayB (e:Int) cp]:=⟨_,rfl⟩
    have lL2:L2.length=K.length+1:=by rw [eL2];simp [lL1]
    have y2:Ext L1 L2:=by rw [eL2];exact .app .refl
    have nk:∀ {i:Nat} {z:ABlk},i ≠ H3.length→K[i]?=some z→L2[i]?=some z:=fun hi hz=>y2.get (by rw [eL1,List.getElem?_set_ne (fun q=>hi q.symm)];exact hz)
    have k3:=nk (by omega) i3
    have k6:=nk (by omega) i6
    have k7:=nk (by omega) i7
    have kw:L2[K.length]?=some (wayB (e:Int) cp):=by rw [eL2,← lL1];exact get_eq rfl
    have vb:=hvb e
    have ld3:∀ z,ldB (some (false,z)) (some (valBk V)) 0 e=some (.int .i64 (V.getD e 0)):=fun z=>ldB_ints (by omega)
    obtain ⟨ve,eve⟩:∃ ve,ve=V.getD e 0:=⟨_,rfl⟩
    rw [← eve] at ld3 vb
    have xL2:Ext h L2:=Ext.trans (by rw [eL1];exact i2.set (by omega)) y2
    have k3':=k3
    have k6':=k6
    have k7':=k7
    unfold nB at k3'
    unfold valBk at k6' ld3
    unfold boB at k7'
    unfold wayB at eL2 kw
    by_cases c2:vx<cp+ve
    ·have t2:(vx<cp+ve)=True:=eq_true c2
     have hbf:b=false:=by
      cases b with
      | false=>rfl
      | true =>
       have:=(hb.1 rfl).cut x hx _ hcm
       simp only [Int.toNat_natCast] at this
       rw [← evx,← eve] at this;omega
     have hsp:=@Nat.succ_ne_zero;repeat' (first|simp (disch:=first|exact dq|fail) only [go_sem,↓reduceIte,hsp,r13,p0,p3,p4,p12,hB,← eL1,← eL2,k3',k6',kw,ld1,ld3,t2,k7']|refine WP_drw ?_|refine cnd_intro (fun hsp=>?_) fun hsp=>?_)
     refine ⟨y2.get (by rw [eL1,List.getElem?_set_self (by omega)]),fun i z hi hp hz=>?_,by omega,.inr ⟨by simp,xL2.set (by omega),by omega,by omega,hbf⟩⟩
     rw [List.getElem?_set_ne (by omega)];exact nk (by omega) hz
    ·have t2:(vx<cp+ve)=False:=eq_false c2
     have hsp:=@Nat.succ_ne_zero;repeat' (first|simp (disch:=first|exact dq|fail) only [go_sem,↓reduceIte,hsp,r13,p0,p3,p4,p12,hB,← eL1,← eL2,k3',k6',kw,ld1,ld3,t2,k7']|refine WP_drw ?_|refine cnd_intro (fun hsp=>?_) fun hsp=>?_)
     refine ⟨y2.get (by rw [eL1,List.getElem?_set_self (by omega)]),fun i z hi hp hz=>nk (by omega) hz,by omega,.inl ⟨by omega,xL2,nk (by omega) i4,nk (by omega) i5,fun c hc=>?_⟩⟩
     rw [htk] at hc
     rcases List.mem_append.1 hc with q|q
     ·exact i8 c q
     ·rw [List.mem_singleton.1 q]
      simp only [Int.toNat_natCast]
      rw [← eve];omega
   ·rintro K ⟨i1,i2,i3,i4,i5,i6,i7,i8⟩
    rw [List.take_length] at i8
    have hsp:=@Nat.succ_ne_zero;repeat' (first|simp (disch:=first|exact dq|fail) only [go_sem,↓reduceIte,hsp,r13,p0,p3,p4,p12]|refine WP_drw ?_|refine cnd_intro (fun hsp=>?_) fun hsp=>?_)
    refine ⟨agq,by omega,i2,by omega,i6,i7,fun y hy=>?_⟩
    by_cases e:y=x
    ·subst e
     exact ⟨by rw [← evx,← evy];omega,fun c hc=>by rw [← evx];exact i8 c hc⟩
    ·exact hpre y (by omega)
   ·rintro e K hne ⟨rfl,q1,q2,q3,q4,rfl⟩
    unfold boB at q2
    have hsp:=@Nat.succ_ne_zero;repeat' (first|simp (disch:=first|exact dq|fail) only [go_sem,↓reduceIte,hsp,r13,p0,p3,p4,p12,q2]|refine WP_drw ?_|refine cnd_intro (fun hsp=>?_) fun hsp=>?_)
    exact fB rfl q1
 ·rintro fr H hA ⟨r13,xH,lH,gv,gb,hpre⟩
  have p0:=hA 0 rfl
  have p3:=hA 3 rfl
  have p4:=hA 4 rfl
  have p12:=hA 12 rfl
  try simp (disch:=first|exact dq|fail) only [go_sem,↓reduceIte] at p0 p3 p4 p12
  have hlt:(((R.L.toNat:Nat):Int)<R.L)=False:=eq_false (by omega)
  have gdH:=xH.get gd
  obtain ⟨n,en⟩:=Int.eq_ofNat_of_zero_le (show 0≤R.L by omega)
  have en':R.L.toNat=n:=by omega
  have ld1:∀ z,ldB (some (false,z)) (some (valBk V)) 0 R.L.toNat=some (.int .i64 (V.getD R.L.toNat 0)):=fun z=>ldB_ints (by omega)
  unfold valBk at gv ld1
  unfold boB at gb
  have ebd:b=decide (V.getD R.L.toNat 0 ≥ 0):=by
   by_cases c:V.getD R.L.toNat 0 ≥ 0
   ·rw [decide_eq_true c]
    exact hb.2 ⟨fun y hy=>(hpre y hy).1,fun y hy=>(hpre y hy).2,c⟩
   ·rw [decide_eq_false c]
    cases b with
    | false=>rfl
    | true=>exact absurd (hb.1 rfl).fin c
  rw [ebd]
  have hsp:=@Nat.succ_ne_zero;repeat' (first|simp (disch:=first|exact dq|fail) only [go_sem,↓reduceIte,hsp,r13,p0,p3,p4,p12,hlt,gdH,dL,gv,ld1,gb]|refine WP_drw ?_|refine cnd_intro (fun hsp=>?_) fun hsp=>?_)
  exact fB rfl (xH.set (by omega))
end Go.AM
namespace Go.AM
open Go.Proofs.Tryz
attribute [-go_sem] put_ne put_same
attribute [local go_sem ↓] put_if
def padV (l:List Int):List Int:=l++List.replicate (61-l.length) 0
def vldE (R:Rib) (l:List Int):Int:=if chkR R ≠ 0 then chkR R else if (l.length:Int) ≠ R.L+1 then 2 else if ¬ (l.all fun y=>decide (-10000≤y∧y≤10000))=true then 3 else 0
theorem padV_len {l:List Int} (h:l.length≤61):(padV l).length=61:=by simp [padV];omega
theorem padV_at {l:List Int} {i:Nat} (h:i<l.length):(padV l).getD i 0=l.getD i 0:=by
 simp only [padV,List.getD_eq_getElem?_getD,List.getElem?_append_left h]
theorem zer61_rep:zer61=List.replicate 61 0:=by decide
theorem ints_appV {a b:List Int}:ints (a++b)=ints a++ints b:=by simp [ints]
theorem copy_val {base A:Nat} {h:Heap} {lv:AVal} {l:List Int} (hI:Ints h lv l) (hg:h[A]?=some (valBk zer61)) (hb:base≤A) (hl:l.length≤61) :
  copyA prog base h 32 (.slice (some ⟨A,0,0⟩) 61 61) lv=some (.int .i64 (l.length:Int),h.set A (valBk (padV l))):=by
 have hm:min l.length 61=l.length:=by omega
 have hf:=hI.firstN' (n:=l.length) rfl
 have e1:ints zer61=[]++ints (List.replicate l.length 0)++ints (List.replicate (61-l.length) 0):=by
  rw [List.nil_append,← ints_appV,List.replicate_append_replicate,zer61_rep]
  congr 2;omega
 have hs:splice (ints zer61) 0 (ints l)=ints (padV l):=by
  have:=splice_mid (ints l) [] (ints (List.replicate l.length 0)) (ints (List.replicate (61-l.length) 0)) (by rw [ints_length,ints_length,List.length_replicate])
  rw [← e1] at this
  rw [show ([]:List AVal).length=0 from rfl] at this
  rw [this,List.nil_append,← ints_appV];rfl
 simp only [copyA,Fc.el32,hI.lenA',hm,hf]
 rw [store_eq,hg]
 unfold valBk
 rw [stQ_ok (by rw [ints_length,ints_length,zer61_rep,List.length_replicate];omega) (ints_scalar _) hb,hs]
theorem run_val1 {base:Nat} {h:Heap} {x:Int}:callL prog raw base (.fn 153 [] []) [.int .i64 x] h=some (.bool (decide (-10000≤x∧x≤10000)),h):=by
 have hi:=fun base=>run_in (base:=base) (h:=h) (n:=x) (lo:=-10000) (hi:=10000)
 refine callL_run func153 rfl rfl ?_
 have hsp:=@Nat.succ_ne_zero;repeat' (first|simp (disch:=first|exact dq|fail) only [go_sem,↓reduceIte,hsp,hi]|refine WP_drw ?_|refine cnd_intro (fun hsp=>?_) fun hsp=>?_)
 exact fB rfl
theorem run_worked2 {base:Nat} {h:Heap} {fv wv:AVal} {R:Rib} (hb:base≤h.length) (hF:Ints h fv R.F) (hW:Rows encW h wv R.W) (hR:RibOk R) :
  Ret prog raw base (.fn 107 [] []) [.agg [.int .i64 R.L,fv,wv]] h (fun w H=>Ext h H∧∃ id,w=.ptr (some ⟨id,0,0⟩)∧h.length≤id∧H[id]?=some (dskB R.L fv wv R.F)):=by
 have o1:=hF.one
 have o2:=hW.one
 obtain ⟨G0,eG0⟩:∃ G0,G0=h++[ribB R.L fv wv]:=⟨_,rfl⟩
 have x0:Ext h G0:=by rw [eG0];exact .app .refl
 have g0:G0[h.length]?=some (ribB R.L fv wv):=by rw [eG0];exact get_eq rfl
 have l0:G0.length=h.length+1:=by rw [eG0];simp
 have eG1:∀ F,G0++[(⟨.cells (.int .i64 R.L :: fv :: wv :: blB F) 169 false false,0⟩:ABlk)]=G0++[dskB R.L fv wv F]:=fun _=>rfl
 have bd:=bdD (L:=R.L) (fv:=fv) (wv:=wv)
 have hn1:∀ F,lenOpA prog (G0++[dskB R.L fv wv F]) 32 fv=some (.int .i64 (R.F.length:Int)):=fun F=>lenI (hF.ext (x0.trans (.app .refl)))
 have hL:=hR.L
 have hnF:=hR.nF
 unfold ribB at eG0 g0
 refine ret_raw func107 rfl (by kernel_rfl) ?_
 have hsp:=@Nat.succ_ne_zero;repeat' (first|simp (disch:=first|exact dq|fail) only [go_sem,↓reduceIte,hsp,← eG0,g0,bd,eG1,hn1]|refine WP_drw ?_|refine cnd_intro (fun hsp=>?_) fun hsp=>?_)
 refine WP_count [(5,5),(12,21)] 0 R.F.length (Nat.zero_le _) (fun _ i fr H=>fr 12=.int .i64 (i:Int)∧H=G0++[dskB R.L fv wv (R.F.take i)]) ?_ ?_ ?_
 ·exact ⟨by (simp (disch:=first|exact dq|fail) only [go_sem,↓reduceIte,Int.natCast_zero];first|done|rfl),by simp⟩
 ·rintro i fr H hi0 hi hA ⟨r12,rfl⟩
  have p2:=hA 2 rfl
  have p3:=hA 3 rfl
  have p10:=hA 10 rfl
  have p11:=hA 11 rfl
  try simp (disch:=first|exact dq|fail) only [go_sem,↓reduceIte] at p2 p3 p10 p11
  have hlt:((i:Int)<(R.F.length:Int))=True:=eq_true (by omega)
  have iF:=hF.ext (x0.trans (.app (t:=[dskB R.L fv wv (R.F.take i)]) .refl))
  have hl0:=loadI iF hi
  have ha0:=adrI (i:=(i:Int)) (by omega) iF (by omega)
  rw [Int.toNat_natCast] at ha0
  have hu:=hR.F _ (getD_mem' (d:=0) hi)
  obtain ⟨u,eu⟩:=Int.eq_ofNat_of_zero_le hu.1
  rw [eu] at hl0 hu
  have hu60:u<60:=by omega
  have e3:3+(u:Int).toNat * 1=3+u:=by omega
  have g1:(G0++[dskB R.L fv wv (R.F.take i)])[G0.length]?=some (dskB R.L fv wv (R.F.take i)):=get_eq rfl
  have st:∀ {F:ABlk→Heap},stQ base G0.length (some (dskB R.L fv wv (R.F.take i))) 0 (3+u) [.bool true] F=some (F (dskB R.L fv wv (R.F.take i++[(u:Int)]))):=fun {F}=>dsk_st (by omega) hu60
  have hsp:=@Nat.succ_ne_zero;repeat' (first|simp (disch:=first|exact dq|fail) only [go_sem,↓reduceIte,hsp,r12,p2,p3,p10,p11,hlt,ha0,hl0,e3,g1,st]|refine WP_drw ?_|refine cnd_intro (fun hsp=>?_) fun hsp=>?_)
  refine ⟨agq,by omega,?_⟩
  rw [List.take_add_one,getD_some (d:=0) hi,eu];rfl
 ·rintro fr H hA ⟨r12,rfl⟩
  have p2:=hA 2 rfl
  have p3:=hA 3 rfl
  have p10:=hA 10 rfl
  have p11:=hA 11 rfl
  try simp (disch:=first|exact dq|fail) only [go_sem,↓reduceIte] at p2 p3 p10 p11
  have hlt:((R.F.length:Int)<(R.F.length:Int))=False:=eq_false (by omega)
  rw [List.take_length]
  have hsp:=@Nat.succ_ne_zero;repeat' (first|simp (disch:=first|exact dq|fail) only [go_sem,↓reduceIte,hsp,r12,p2,p3,p10,p11,hlt]|refine WP_drw ?_|refine cnd_intro (fun hsp=>?_) fun hsp=>?_)
  have x1:Ext h (G0++[dskB R.L fv wv R.F]):=x0.trans (.app .refl)
  exact ⟨x1,_,rfl,by omega,get_eq rfl⟩
theorem run_opened2 {base:Nat} {h:Heap} {fv wv:AVal} {R:Rib} (hb:base≤h.length) (hF:Ints h fv R.F) (hW:Rows encW h wv R.W) (hsm:R.F.length≤1048576) :
  Ret prog raw base (.fn 37 [] []) [.agg [.int .i64 R.L,fv,wv]] h (fun w H=>Ext h H∧(chkR R ≠ 0→w=.tuple [.ptr none,.int .i64 (chkR R)])∧(chkR R=0→∃ id,w=.tuple [.ptr (some ⟨id,0,0⟩),.int .i64 0]∧h.length≤id∧H[id]?=some (dskB R.L fv wv R.F))):=by
 have o1:=hF.one
 have o2:=hW.one
 obtain ⟨G0,eG0⟩:∃ G0,G0=h++[ribB R.L fv wv]:=⟨_,rfl⟩
 have x0:Ext h G0:=by rw [eG0];exact .app .refl
 have g0:G0[h.length]?=some (ribB R.L fv wv):=by rw [eG0];exact get_eq rfl
 have l0:G0.length=h.length+1:=by rw [eG0];simp
 have hA0:RibAt G0 (.agg [.int .i64 R.L,fv,wv]) R:=⟨fv,wv,rfl,hF.ext x0,hW.ext x0⟩
 have hck0:=fun base=>run_Check (base:=base) hA0 hsm
 unfold ribB at eG0 g0
 by_cases c0:chkR R=0
 ·rw [c0] at hck0
  obtain ⟨w1,H1,e1,x1,id,rfl,hid,hD⟩:=run_worked2 (base:=base) (by omega) (hF.ext x0) (hW.ext x0) (chkR_iff.1 c0)
  refine ret_raw func37 rfl (by kernel_rfl) ?_
  have hsp:=@Nat.succ_ne_zero;repeat' (first|simp (disch:=first|exact dq|fail) only [go_sem,↓reduceIte,hsp,← eG0,g0,hck0,e1]|refine WP_drw ?_|refine cnd_intro (fun hsp=>?_) fun hsp=>?_)
  exact ⟨x0.trans x1,fun q=>absurd c0 q,fun _=>⟨id,rfl,by omega,hD⟩⟩
 ·have t0:(chkR R=0)=False:=eq_false c0
  refine ret_raw func37 rfl (by kernel_rfl) ?_
  have hsp:=@Nat.succ_ne_zero;repeat' (first|simp (disch:=first|exact dq|fail) only [go_sem,↓reduceIte,hsp,← eG0,g0,hck0,t0]|refine WP_drw ?_|refine cnd_intro (fun hsp=>?_) fun hsp=>?_)
  refine ⟨x0,?_,?_⟩<;>first|trivial|exact fun _=>rfl|exact fun q=>q.elim|exact fun q=>absurd q c0
set_option maxRecDepth 100000 in
set_option maxHeartbeats 4000000 in
theorem run_valued {base:Nat} {h:Heap} {v lv:AVal} {R:Rib} {l:List Int} (hb:base≤h.length) (hA:RibAt h v R) (hsm:R.F.length≤1048576) (hI:Ints h lv l) :
  Ret prog raw base (.fn 134 [] []) [v,lv] h (fun w H=>Ext h H∧∃ a,w=.tuple [a,.agg (ints (if vldE R l=0 then padV l else zer61)),.int .i64 (vldE R l)]∧One a∧(vldE R l=0→∃ id,a=.ptr (some ⟨id,0,0⟩)∧DskAt H id R)):=by
 have hAe:=fun H (e:Ext h H)=>hA.ext e
 obtain ⟨fv,wv,rfl,hF,hW⟩:=hA
 have o1:=hF.one
 have o2:=hW.one
 have ol:=hI.one
 obtain ⟨G0,eG0⟩:∃ G0,G0=h++[ribB R.L fv wv]++[valBk zer61]:=⟨_,rfl⟩
 have x0:Ext h G0:=by rw [eG0];exact .app (.app .refl)
 have g0:G0[h.length]?=some (ribB R.L fv wv):=by rw [eG0];exact get_app (get_eq rfl)
 have gz:G0[h.length+1]?=some (valBk zer61):=by rw [eG0];exact get_eq (by simp)
 have l0:G0.length=h.length+2:=by rw [eG0];simp
 obtain ⟨w1,H1,e1,x1,r1,r2⟩:=run_opened2 (base:=base) (h:=G0) (by omega) (hF.ext x0) (hW.ext x0) hsm
 have l1:=x1.len
 have xx:=x0.trans x1
 have p0:=x1.get g0
 have pz:=x1.get gz
 have hn:=lenI (hI.ext xx)
 have hev:=fun base=>every_I (base:=base) (fun y=>decide (-10000≤y∧y≤10000)) (hI.ext xx) (g:=.fn 153 [] []) (fun base T x _=>run_val1) ⟨rfl,rfl,rfl⟩
 have hz:zer61.length=61:=by decide
 have bz:buildA prog 106 []=some (.agg (ints zer61)):=by kernel_rfl
 have stz:=stV61 (base:=base) (l:=zer61) pz hz hz
 rw [set_id pz] at stz
 have ldz:=ldA61 (l:=zer61) (e:=106) (row:=false) (ro:=false) hz
 unfold ribB at eG0 g0 p0
 unfold valBk zer61 at eG0
 have pz':=pz
 unfold valBk at pz'
 refine ret_raw func134 rfl (by kernel_rfl) ?_
 by_cases c0:chkR R=0
 ·obtain ⟨id,rfl,hid,hD⟩:=r2 c0
  have hR:=chkR_iff.1 c0
  have hL:=hR.L
  by_cases c1:(l.length:Int)=R.L+1
  ·have t1:((l.length:Int)=R.L+1)=True:=eq_true c1
   rcases Bool.eq_false_or_eq_true (l.all fun y=>decide (-10000≤y∧y≤10000)) with c2|c2
   ·rw [c2] at hev
    have re:vldE R l=0:=by unfold vldE;rw [if_neg (fun q=>q c0),if_neg (fun q=>q c1),if_neg (fun q=>q c2)]
    rw [re,if_pos rfl]
    have hpl:=padV_len (l:=l) (by omega)
    obtain ⟨H2,eH2⟩:∃ H2,H2=H1++[valBk zer61]:=⟨_,rfl⟩
    have x2:Ext H1 H2:=by rw [eH2];exact .app .refl
    have l2:H2.length=H1.length+1:=by rw [eH2];simp
    have q2:H2[H1.length]?=some (valBk zer61):=by rw [eH2];exact get_eq rfl
    have sl:sliceA prog 106 (.ptr (some ⟨H1.length,0,0⟩)) none none none=some (.slice (some ⟨H1.length,0,0⟩) 61 61):=by
     simp only [sliceA,Fc.ar106,optB]
     simp [ARef.add]
    have hcp:=copy_val (base:=base) (A:=H1.length) (hI.ext (xx.trans x2)) q2 (by omega) (by omega)
    obtain ⟨H3,eH3⟩:∃ H3,H3=H2.set H1.length (valBk (padV l)):=⟨_,rfl⟩
    have l3:H3.length=H2.length:=by rw [eH3,List.length_set]
    have q3:H3[H1.length]?=some (valBk (padV l)):=by rw [eH3,List.getElem?_set_self (by omega)]
    have z3:H3[h.length+1]?=some (valBk zer61):=by rw [eH3,List.getElem?_set_ne (by omega)];exact x2.get pz
    have xH3:Ext G0 H3:=by rw [eH3];exact (x1.trans x2).set (by omega)
    have xD3:Ext H1 H3:=by rw [eH3];exact x2.set (by omega)
    rw [← eH3] at hcp
    have stp:=stV61 (base:=base) (l:=padV l) z3 hpl hz
    have ldp:=ldA61 (l:=padV l) (e:=106) (row:=false) (ro:=false) hpl
    obtain ⟨H4,eH4⟩:∃ H4,H4=H3.set (h.length+1) (valBk (padV l)):=⟨_,rfl⟩
    have q4:H4[h.length+1]?=some (valBk (padV l)):=by rw [eH4,List.getElem?_set_self (by omega)]
    rw [← eH4] at stp
    unfold valBk zer61 at eH2
    unfold valBk at q3 q4
    have hsp:=@Nat.succ_ne_zero;repeat' (first|simp (disch:=first|exact dq|fail) only [go_sem,↓reduceIte,hsp,← eG0,g0,e1,eq_self,hn,p0,t1,hev,Bool.not_true,← eH2,sl,hcp,q3,ldp,stp,q4]|refine WP_drw ?_|refine cnd_intro (fun hsp=>?_) fun hsp=>?_)
    have xf:Ext h H4:=by rw [eH4];exact (x0.trans xH3).set (by omega)
    refine ⟨xf,_,rfl,One.lit ⟨rfl,rfl,rfl⟩,fun _=>⟨id,rfl,fv,wv,?_,hF.ext xf,hW.ext xf⟩⟩
    rw [eH4,List.getElem?_set_ne (by omega)]
    exact xD3.get hD
   ·rw [c2] at hev
    have re:vldE R l=3:=by unfold vldE;rw [if_neg (fun q=>q c0),if_neg (fun q=>q c1),if_pos (by rw [c2];simp)]
    rw [re,if_neg (by decide)]
    have hsp:=@Nat.succ_ne_zero;repeat' (first|simp (disch:=first|exact dq|fail) only [go_sem,↓reduceIte,hsp,← eG0,g0,e1,eq_self,hn,p0,t1,hev,Bool.not_false,bz,stz,pz',ldz]|refine WP_drw ?_|refine cnd_intro (fun hsp=>?_) fun hsp=>?_)
    exact ⟨xx,_,rfl,One.lit ⟨rfl,rfl,rfl⟩,fun q=>q.elim⟩
  ·have t1:((l.length:Int)=R.L+1)=False:=eq_false c1
   have re:vldE R l=2:=by unfold vldE;rw [if_neg (fun q=>q c0),if_pos c1]
   rw [re,if_neg (by decide)]
   have hsp:=@Nat.succ_ne_zero;repeat' (first|simp (disch:=first|exact dq|fail) only [go_sem,↓reduceIte,hsp,← eG0,g0,e1,eq_self,hn,p0,t1,bz,stz,pz',ldz]|refine WP_drw ?_|refine cnd_intro (fun hsp=>?_) fun hsp=>?_)
   exact ⟨xx,_,rfl,One.lit ⟨rfl,rfl,rfl⟩,fun q=>q.elim⟩
 ·have t0:(chkR R=0)=False:=eq_false c0
  have r:=r1 c0
  subst r
  have re:vldE R l=chkR R:=by unfold vldE;rw [if_pos c0]
  rw [re,if_neg c0]
  have hsp:=@Nat.succ_ne_zero;repeat' (first|simp (disch:=first|exact dq|fail) only [go_sem,↓reduceIte,hsp,← eG0,g0,e1,t0,bz,stz,pz',ldz]|refine WP_drw ?_|refine cnd_intro (fun hsp=>?_) fun hsp=>?_)
  exact ⟨xx,_,rfl,One.lit ⟨rfl,rfl,rfl⟩,fun q=>q.elim⟩
end Go.AM
