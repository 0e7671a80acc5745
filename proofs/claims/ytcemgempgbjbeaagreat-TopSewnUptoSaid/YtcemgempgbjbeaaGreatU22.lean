/-
  Contracts: a ribbon that is made (Made).
-/
import Derived.Test.YtcemgempgbjbeaaGreatU20
import Derived.Test.YtcemgempgbjbeaaGreatU16
import Derived.Test.YtcemgempgbjbeaaGreatU21
set_option linter.unusedSimpArgs false
set_option linter.unusedVariables false
namespace Go.AM
open Go.Proofs.Tryz
attribute [-go_sem] put_ne put_same
attribute [local go_sem ↓] put_if
theorem bsWW1 {lit:Bool} {H:Heap} {w:Wnt}:bsA prog lit H 36 1 [(0,.agg [.int .i64 w.lg,.int .i64 w.pr,.int .i64 w.off,.int .i64 w.fl,.int .i64 w.jn])]=some (.slice (some ⟨H.length,0,0⟩) 1 1,H++[rowE encW 74 [w] 0]):=by
 simp [bsA,rowOf,Fc.el36,fillA,repCells,AVal.isN,AVal.cells,splice,rowE,flat,encW]
theorem snocWW {b base:Nat} {A:Heap} {w:AVal} {l:List Wnt} {r:Wnt} (hO:Own encW 74 b A w l) (hb:base≤b) (hbh:b≤A.length) (hl:l.length≤1000000) :
  ∃ w' H,appendA prog base (A++[rowE encW 74 [r] 0]) 36 w (.slice (some ⟨A.length,0,0⟩) 1 1)=some (w',H)∧Own encW 74 b H w' (l++[r])∧A.length≤H.length∧(∀ G,G.length≤b→Ext G A→Ext G H)∧One w'∧KeepO encW 74 A H:=by
 obtain ⟨B,eB⟩:∃ B,B=A++[rowE encW 74 [r] 0]:=⟨_,rfl⟩
 have xB:Ext A B:=by rw [eB];exact .app .refl
 have lB':B.length=A.length+1:=by rw [eB];simp
 have hx:Rows encW B (.slice (some ⟨A.length,0,0⟩) 1 1) [r]:=Rows.own (by rw [eB];exact get_eq rfl) rfl (by simp)
 rw [← eB]
 obtain ⟨w',H,a1,a2,a3,a4,a5,a6⟩:=(hO.ext xB).appendRX (P:=prog) (base:=base) (t:=36) hx Fc.el36 encW_sc hb (by omega) (by simp) (by simp;omega)
 have a6:KeepO encW 74 B H:=a6
 exact ⟨w',H,a1,a2,by omega,fun G h1 h2=>a4 G h1 (h2.trans xB),a5,fun i y hi hy=>a6 i y (xB.get hi) hy⟩
theorem stN53 {base:Nat} {l:List Oper} {s:St} {Q:AExit→St→Prop}:WP prog raw base (.region 11 l.toArray true) s Q=WPS prog raw base (.region 11 l.toArray true) s Q:=WP_stop
attribute [local go_sem ↓ 3000] stN53
set_option maxRecDepth 100000 in
set_option maxHeartbeats 4000000 in
theorem run_LMadeD {base id k0:Nat} {h:Heap} {v:AVal} {silk:List Int} {A B D:Int} (hb:base≤h.length) (hS:SpAt h id v silk k0) (hk:k0≤100000) (hA:1≤A∧A≤60) (hB:0≤B∧B≤12) (hD:0≤D∧D≤6) :
  Ret prog raw base (.fn 10 [] []) [.ptr (some ⟨id,0,0⟩),.int .i64 A,.int .i64 B,.int .i64 D] h (fun w H=>∃ L F W fv wv k',w=.agg [.int .i64 L,fv,wv]∧(k0≤k'∧k'≤k0+100)∧SpE h id v silk k' H∧Own encI 3 h.length H fv F∧Own encW 74 h.length H wv W∧RibOk ⟨L,F,W⟩∧L≤A∧(F.length:Int)≤B∧(W.length:Int)≤D):=by
 have hid:=lt_of_get hS.1
 have hS0:SpAt (h++[ribB 0 (.slice none 0 0) (.slice none 0 0)]) id v silk k0:=hS.app
 have b1:=up_bd (silk:=silk) (k:=k0) (n:=A-1) (by omega)
 have b2:=up_bd (silk:=silk) (k:=k0+1) (n:=B) (by omega)
 obtain ⟨G,eG⟩:∃ G,G=h++[ribB 0 (.slice none 0 0) (.slice none 0 0)]:=⟨_,rfl⟩
 rw [← eG] at hS0
 have lG:G.length=h.length+1:=by rw [eG];simp
 have xG:Ext h G:=by rw [eG];exact .app .refl
 have g0:G[h.length]?=some (ribB 0 (.slice none 0 0) (.slice none 0 0)):=by rw [eG];exact get_eq rfl
 have f1:=fun base=>run_from (base:=base) (lo:=1) (hi:=A) hS0 (by omega) (by omega) (by omega)
 obtain ⟨L,eL⟩:∃ L,L=1+up silk k0 (A-1):=⟨_,rfl⟩
 have hL:1≤L∧L≤A:=by omega
 rw [← eL] at f1
 obtain ⟨G1,eG1⟩:∃ G1,G1=G.set id (spB v silk (k0+1)):=⟨_,rfl⟩
 rw [← eG1] at f1
 have q1:SpE h id v silk (k0+1) G1:=by rw [eG1];exact ((SpE.refl hS).ext xG).step hid
 have l1:G1.length=h.length+1:=by rw [eG1,List.length_set,lG]
 have g1:G1[h.length]?=some (ribB 0 (.slice none 0 0) (.slice none 0 0)):=by rw [eG1,List.getElem?_set_ne (by omega)];exact g0
 obtain ⟨G2,eG2⟩:∃ G2,G2=G1++[ribB L (.slice none 0 0) (.slice none 0 0)]:=⟨_,rfl⟩
 have q2:SpE h id v silk (k0+1) G2:=by rw [eG2];exact q1.app
 have l2:G2.length=h.length+2:=by rw [eG2];simp [l1]
 have g2:G2[h.length]?=some (ribB 0 (.slice none 0 0) (.slice none 0 0)):=by rw [eG2];exact get_app g1
 have c2:G2[h.length+1]?=some (ribB L (.slice none 0 0) (.slice none 0 0)):=by rw [eG2];exact get_eq (by rw [l1])
 have f2:=fun base=>run_upto (base:=base) (n:=B) (q2.at hS) (by omega) (by omega)
 obtain ⟨m,em⟩:∃ m,m=up silk (k0+1) B:=⟨_,rfl⟩
 rw [← em] at b2 f2
 obtain ⟨G3,eG3⟩:∃ G3,G3=G2.set id (spB v silk (k0+1+1)):=⟨_,rfl⟩
 rw [← eG3] at f2
 have q3:SpE h id v silk (k0+1+1) G3:=by rw [eG3];exact q2.step hid
 have l3:G3.length=h.length+2:=by rw [eG3,List.length_set,l2]
 have g3:G3[h.length]?=some (ribB 0 (.slice none 0 0) (.slice none 0 0)):=by rw [eG3,List.getElem?_set_ne (by omega)];exact g2
 have c3:G3[h.length+1]?=some (ribB L (.slice none 0 0) (.slice none 0 0)):=by rw [eG3,List.getElem?_set_ne (by omega)];exact c2
 have hq:0≤L.tdiv (max 1 m)∧L.tdiv (max 1 m)≤60:=by
  rw [Int.tdiv_eq_ediv_of_nonneg (by omega)]
  have h1:0<max 1 m:=by omega
  refine ⟨Int.ediv_nonneg (by omega) (by omega),?_⟩
  exact Int.le_trans (Int.ediv_le_self _ (by omega)) (by omega)
 have hm0:max 1 m ≠ 0:=by omega
 have hm1:(max 1 m=0)=False:=eq_false hm0
 obtain ⟨X,eX⟩:∃ X,X=max 2 (L.tdiv (max 1 m)):=⟨_,rfl⟩
 have hX:2≤X∧X≤60:=by omega
 clear eL b1
 rw [show h.length+1=G1.length from l1.symm] at c2 c3
 unfold ribB at eG eG2
 have c3':=c3
 unfold ribB at c3'
 refine ret_raw func10 rfl (by kernel_rfl) ?_
 have hsp:=@Nat.succ_ne_zero;repeat' (first|simp (disch:=first|exact dqd|fail) only [go_sem,↓reduceIte,hsp,← eG,f1,← eG2,f2,c3']|refine WP_drw ?_|refine cnd_intro (fun hsp=>?_) fun hsp=>?_)
 obtain ⟨n,en⟩:=Int.eq_ofNat_of_zero_le (show 0≤L by omega)
 refine WP_count [(11,11),(21,45)] 0 n (Nat.zero_le _) (fun _ i fr K=>fr 21=.int .i64 (i:Int)∧∃ F fv k',(k0≤k'∧k'≤k0+2+i)∧SpE h id v silk k' K∧K[h.length]?=some (ribB 0 (.slice none 0 0) (.slice none 0 0))∧K[G1.length]?=some (ribB L fv (.slice none 0 0))∧Own encI 3 (h.length+2) K fv F∧(F.length:Int)≤m∧(∀ y ∈ F,0≤y∧y<(i:Int))∧F.Pairwise (·<·)∧h.length+2≤K.length) ?_ ?_ ?_
 ·exact ⟨by (simp (disch:=first|exact dqd|fail) only [go_sem,↓reduceIte,Int.natCast_zero];first|done|rfl),[],_,k0+1+1,by omega,q3,g3,c3,Own.nil,by simp;omega,by simp,by simp,by omega⟩
 ·rintro i fr K hi0 hi hAg ⟨r21,F,fv,k',hk',xK,gK,cK,oF,hFl,hFb,hFs,lK⟩
  have q0:=hAg 0 rfl
  have q3:=hAg 3 rfl
  have q8:=hAg 8 rfl
  have q9:=hAg 9 rfl
  have q10:=hAg 10 rfl
  have q20:=hAg 20 rfl
  try simp (disch:=first|exact dqd|fail) only [go_sem,↓reduceIte] at q0 q3 q8 q9 q10 q20
  have hlt:((i:Int)<L)=True:=eq_true (by omega)
  have of1:=oF.one
  have hSK:=xK.at hS
  have iF:Ints K fv F:=own_ints oF ⟨by omega,fun y hy=>by have:=hFb y hy;omega⟩
  have hn:=lenI iF
  have cK':=cK
  unfold ribB at cK'
  by_cases c1:(F.length:Int)<m
  ·have t1:((F.length:Int)<m)=True:=eq_true c1
   have e1:=fun base=>run_once (base:=base) (n:=X) hSK (by omega) (by omega)
   rw [eX] at e1
   obtain ⟨K1,eK1⟩:∃ K1,K1=K.set id (spB v silk (k'+1)):=⟨_,rfl⟩
   rw [← eK1] at e1
   have xK1:SpE h id v silk (k'+1) K1:=by rw [eK1];exact xK.step hid
   have gK1:K1[h.length]?=some (ribB 0 (.slice none 0 0) (.slice none 0 0)):=by rw [eK1,List.getElem?_set_ne (by omega)];exact gK
   have cK1:K1[G1.length]?=some (ribB L fv (.slice none 0 0)):=by rw [eK1,List.getElem?_set_ne (by omega)];exact cK
   have oF1:Own encI 3 (h.length+2) K1 fv F:=by rw [eK1];exact oF.set (by omega)
   have lK1:K1.length=K.length:=by rw [eK1,List.length_set]
   have cK1':=cK1
   unfold ribB at cK1'
   rcases Bool.eq_false_or_eq_true (decide (up silk k' (max 2 (L.tdiv (max 1 m))-1)=0)) with qb|qb
   ·rw [qb] at e1
    obtain ⟨w',K3,ea,oW,lW,eW2,oneW,kW⟩:=oF1.append1X (P:=prog) (y:=(i:Int)) (a:=.int .i64 (i:Int)) (base:=base) (t:=35) rfl rfl Fc.el35 encI_sc (by omega) (by omega) (by omega)
    have kW:KeepO encI 3 K1 K3:=kW
    have cK3:=kW.box cK1'
    have gK3:=kW.box gK1
    have xK3:SpE h id v silk (k'+1) K3:=eW2 _ (by rw [List.length_set];omega) xK1
    have hsp:=@Nat.succ_ne_zero;repeat' (first|simp (disch:=first|exact dqd|fail) only [go_sem,↓reduceIte,hsp,r21,q0,q3,q8,q9,q10,q20,hlt,cK',hn,t1,hm1,hm0,e1,cK1',ea,cK3]|refine WP_drw ?_|refine cnd_intro (fun hsp=>?_) fun hsp=>?_)
    refine ⟨agq,by omega,F++[(i:Int)],w',k'+1,by omega,Ext.set xK3 (by rw [List.length_set];omega),gK3,rfl,Own.setBox oW cK3,by simp;omega,fun y hy=>?_,?_,by omega⟩
    ·rcases List.mem_append.1 hy with hy|hy
     ·have:=hFb y hy;omega
     ·rw [List.mem_singleton] at hy;omega
    ·refine List.pairwise_append.2 ⟨hFs,by simp,fun a ha b hb=>?_⟩
     have:=hFb a ha
     rw [List.mem_singleton] at hb;omega
   ·rw [qb] at e1
    have hsp:=@Nat.succ_ne_zero;repeat' (first|simp (disch:=first|exact dqd|fail) only [go_sem,↓reduceIte,hsp,r21,q0,q3,q8,q9,q10,q20,hlt,cK',hn,t1,hm1,hm0,e1]|refine WP_drw ?_|refine cnd_intro (fun hsp=>?_) fun hsp=>?_)
    exact ⟨agq,by omega,F,fv,k'+1,by omega,xK1,gK1,cK1,oF1,hFl,fun y hy=>by have:=hFb y hy;omega,hFs,by omega⟩
  ·have t1:((F.length:Int)<m)=False:=eq_false c1
   have hsp:=@Nat.succ_ne_zero;repeat' (first|simp (disch:=first|exact dqd|fail) only [go_sem,↓reduceIte,hsp,r21,q0,q3,q8,q9,q10,q20,hlt,cK',hn,t1]|refine WP_drw ?_|refine cnd_intro (fun hsp=>?_) fun hsp=>?_)
   exact ⟨agq,by omega,F,fv,k',by omega,xK,gK,rfl,oF,hFl,fun y hy=>by have:=hFb y hy;omega,hFs,lK⟩
 ·rintro fr K hAg ⟨r21,F,fv,k',hk',xK,gK,cK,oF,hFl,hFb,hFs,lK⟩
  have q0:=hAg 0 rfl
  have q3:=hAg 3 rfl
  have q8:=hAg 8 rfl
  have q9:=hAg 9 rfl
  have q10:=hAg 10 rfl
  have q20:=hAg 20 rfl
  try simp (disch:=first|exact dqd|fail) only [go_sem,↓reduceIte] at q0 q3 q8 q9 q10 q20
  have hlt:((n:Int)<L)=False:=eq_false (by omega)
  have of1:=oF.one
  have hSK:=xK.at hS
  have ubz:=up_bd (silk:=silk) (k:=k') (n:=D) (by omega)
  have ez:=fun base=>run_upto (base:=base) (n:=D) hSK (by omega) (by omega)
  obtain ⟨z,ezz⟩:=Int.eq_ofNat_of_zero_le ubz.1
  rw [ezz] at ez ubz
  obtain ⟨K0,eK0⟩:∃ K0,K0=K.set id (spB v silk (k'+1)):=⟨_,rfl⟩
  rw [← eK0] at ez
  have xK0:SpE h id v silk (k'+1) K0:=by rw [eK0];exact xK.step hid
  have gK0:K0[h.length]?=some (ribB 0 (.slice none 0 0) (.slice none 0 0)):=by rw [eK0,List.getElem?_set_ne (by omega)];exact gK
  have cK0:K0[G1.length]?=some (ribB L fv (.slice none 0 0)):=by rw [eK0,List.getElem?_set_ne (by omega)];exact cK
  have oF0:Own encI 3 (h.length+2) K0 fv F:=by rw [eK0];exact oF.set (by omega)
  have lK0:K0.length=K.length:=by rw [eK0,List.length_set]
  have hsp:=@Nat.succ_ne_zero;repeat' (first|simp (disch:=first|exact dqd|fail) only [go_sem,↓reduceIte,hsp,r21,q0,q3,q8,q9,q10,q20,hlt,ez]|refine WP_drw ?_|refine cnd_intro (fun hsp=>?_) fun hsp=>?_)
  refine WP_count [(49,67)] 0 z (Nat.zero_le _) (fun _ j fr K'=>fr 49=.int .i64 (j:Int)∧∃ W wv k2,(k0≤k2∧k2≤k'+1+5 * j)∧SpE h id v silk k2 K'∧K'[h.length]?=some (ribB 0 (.slice none 0 0) (.slice none 0 0))∧K'[G1.length]?=some (ribB L fv wv)∧Own encI 3 (h.length+2) K' fv F∧Own encW 74 (h.length+2) K' wv W∧W.length≤j∧(∀ w ∈ W,WntOk w)∧h.length+2≤K'.length) ?_ ?_ ?_
  ·exact ⟨by (simp (disch:=first|exact dqd|fail) only [go_sem,↓reduceIte,Int.natCast_zero];first|done|rfl),[],.slice none 0 0,k'+1,by omega,xK0,gK0,cK0,oF0,Own.nil,by simp,by simp,by omega⟩
  ·rintro j fr2 K' hj0 hj hA2 ⟨r49,W,wv,k2,hk2,xK2,gK2,cK2,oF2,oW2,hWl,hWo,lK2⟩
   have d0:=hA2 0 rfl
   have d8:=hA2 8 rfl
   have d9:=hA2 9 rfl
   have d48:=hA2 48 rfl
   try simp (disch:=first|exact dqd|fail) only [go_sem,↓reduceIte,q0,q8,q9] at d0 d8 d9 d48
   have hlt2:((j:Int)<(z:Int))=True:=eq_true (by omega)
   have owv:=oW2.one
   have ub1:=up_bd (silk:=silk) (k:=k2) (n:=(9-1)) (by omega)
   have e1:=fun base=>run_from (base:=base) (lo:=1) (hi:=9) (xK2.at hS) (by omega) (by omega) (by omega)
   obtain ⟨w1,ew1⟩:∃ w1,w1=1+up silk k2 (9-1):=⟨_,rfl⟩
   rw [← ew1] at e1
   obtain ⟨M1,eM1⟩:∃ M1,M1=K'.set id (spB v silk (k2+1)):=⟨_,rfl⟩
   rw [← eM1] at e1
   have xM1:SpE h id v silk (k2+1) M1:=by rw [eM1];exact xK2.step hid
   have gM1:M1[h.length]?=some (ribB 0 (.slice none 0 0) (.slice none 0 0)):=by rw [eM1,List.getElem?_set_ne (by omega)];exact gK2
   have cM1:M1[G1.length]?=some (ribB L fv wv):=by rw [eM1,List.getElem?_set_ne (by omega)];exact cK2
   have fM1:Own encI 3 (h.length+2) M1 fv F:=by rw [eM1];exact oF2.set (by omega)
   have wM1:Own encW 74 (h.length+2) M1 wv W:=by rw [eM1];exact oW2.set (by omega)
   have lM1:M1.length=K'.length:=by rw [eM1,List.length_set]
   have ub2:=up_bd (silk:=silk) (k:=(k2+1)) (n:=40) (by omega)
   have e2:=fun base=>run_upto (base:=base) (n:=40) (xM1.at hS) (by omega) (by omega)
   obtain ⟨w2,ew2⟩:∃ w2,w2=up silk ((k2+1)) 40:=⟨_,rfl⟩
   rw [← ew2] at e2
   obtain ⟨M2,eM2⟩:∃ M2,M2=M1.set id (spB v silk ((k2+1)+1)):=⟨_,rfl⟩
   rw [← eM2] at e2
   have xM2:SpE h id v silk ((k2+1)+1) M2:=by rw [eM2];exact xM1.step hid
   have gM2:M2[h.length]?=some (ribB 0 (.slice none 0 0) (.slice none 0 0)):=by rw [eM2,List.getElem?_set_ne (by omega)];exact gM1
   have cM2:M2[G1.length]?=some (ribB L fv wv):=by rw [eM2,List.getElem?_set_ne (by omega)];exact cM1
   have fM2:Own encI 3 (h.length+2) M2 fv F:=by rw [eM2];exact fM1.set (by omega)
   have wM2:Own encW 74 (h.length+2) M2 wv W:=by rw [eM2];exact wM1.set (by omega)
   have lM2:M2.length=M1.length:=by rw [eM2,List.length_set]
   have ub3:=up_bd (silk:=silk) (k:=((k2+1)+1)) (n:=8) (by omega)
   have e3:=fun base=>run_upto (base:=base) (n:=8) (xM2.at hS) (by omega) (by omega)
   obtain ⟨w3,ew3⟩:∃ w3,w3=up silk (((k2+1)+1)) 8:=⟨_,rfl⟩
   rw [← ew3] at e3
   obtain ⟨M3,eM3⟩:∃ M3,M3=M2.set id (spB v silk (((k2+1)+1)+1)):=⟨_,rfl⟩
   rw [← eM3] at e3
   have xM3:SpE h id v silk (((k2+1)+1)+1) M3:=by rw [eM3];exact xM2.step hid
   have gM3:M3[h.length]?=some (ribB 0 (.slice none 0 0) (.slice none 0 0)):=by rw [eM3,List.getElem?_set_ne (by omega)];exact gM2
   have cM3:M3[G1.length]?=some (ribB L fv wv):=by rw [eM3,List.getElem?_set_ne (by omega)];exact cM2
   have fM3:Own encI 3 (h.length+2) M3 fv F:=by rw [eM3];exact fM2.set (by omega)
   have wM3:Own encW 74 (h.length+2) M3 wv W:=by rw [eM3];exact wM2.set (by omega)
   have lM3:M3.length=M2.length:=by rw [eM3,List.length_set]
   have ub4:=up_bd (silk:=silk) (k:=(((k2+1)+1)+1)) (n:=2) (by omega)
   have e4:=fun base=>run_upto (base:=base) (n:=2) (xM3.at hS) (by omega) (by omega)
   obtain ⟨w4,ew4⟩:∃ w4,w4=up silk ((((k2+1)+1)+1)) 2:=⟨_,rfl⟩
   rw [← ew4] at e4
   obtain ⟨M4,eM4⟩:∃ M4,M4=M3.set id (spB v silk ((((k2+1)+1)+1)+1)):=⟨_,rfl⟩
   rw [← eM4] at e4
   have xM4:SpE h id v silk ((((k2+1)+1)+1)+1) M4:=by rw [eM4];exact xM3.step hid
   have gM4:M4[h.length]?=some (ribB 0 (.slice none 0 0) (.slice none 0 0)):=by rw [eM4,List.getElem?_set_ne (by omega)];exact gM3
   have cM4:M4[G1.length]?=some (ribB L fv wv):=by rw [eM4,List.getElem?_set_ne (by omega)];exact cM3
   have fM4:Own encI 3 (h.length+2) M4 fv F:=by rw [eM4];exact fM3.set (by omega)
   have wM4:Own encW 74 (h.length+2) M4 wv W:=by rw [eM4];exact wM3.set (by omega)
   have lM4:M4.length=M3.length:=by rw [eM4,List.length_set]
   have ub5:=up_bd (silk:=silk) (k:=((((k2+1)+1)+1)+1)) (n:=2) (by omega)
   have e5:=fun base=>run_upto (base:=base) (n:=2) (xM4.at hS) (by omega) (by omega)
   obtain ⟨w5,ew5⟩:∃ w5,w5=up silk (((((k2+1)+1)+1)+1)) 2:=⟨_,rfl⟩
   rw [← ew5] at e5
   obtain ⟨M5,eM5⟩:∃ M5,M5=M4.set id (spB v silk (((((k2+1)+1)+1)+1)+1)):=⟨_,rfl⟩
   rw [← eM5] at e5
   have xM5:SpE h id v silk (((((k2+1)+1)+1)+1)+1) M5:=by rw [eM5];exact xM4.step hid
   have gM5:M5[h.length]?=some (ribB 0 (.slice none 0 0) (.slice none 0 0)):=by rw [eM5,List.getElem?_set_ne (by omega)];exact gM4
   have cM5:M5[G1.length]?=some (ribB L fv wv):=by rw [eM5,List.getElem?_set_ne (by omega)];exact cM4
   have fM5:Own encI 3 (h.length+2) M5 fv F:=by rw [eM5];exact fM4.set (by omega)
   have wM5:Own encW 74 (h.length+2) M5 wv W:=by rw [eM5];exact wM4.set (by omega)
   have lM5:M5.length=M4.length:=by rw [eM5,List.length_set]
   obtain ⟨wr,ewr⟩:∃ wr:Wnt,wr=⟨w1,w2,w3,w4,w5⟩:=⟨_,rfl⟩
   have hwr:WntOk wr:=by rw [ewr];exact ⟨by simp only;omega,by simp only;omega,by simp only;omega,by simp only;omega,by simp only;omega⟩
   have bsw:∀ {lit:Bool},bsA prog lit M5 36 1 [(0,.agg [.int .i64 w1,.int .i64 w2,.int .i64 w3,.int .i64 w4,.int .i64 w5])]=some (.slice (some ⟨M5.length,0,0⟩) 1 1,M5++[rowE encW 74 [wr] 0]):=fun {lit}=>by
    rw [ewr];exact bsWW1 (w:=⟨w1,w2,w3,w4,w5⟩)
   obtain ⟨w',M6,ea,oW6,lW6,eW6,oneW,kW⟩:=snocWW (base:=base) (r:=wr) wM5 (by omega) (by omega) (by omega)
   have c6:=kW.box cM5
   have g6:=kW.box gM5
   have f6:=kW.own fM5 (by decide)
   have x6:SpE h id v silk ((((((k2+1)+1)+1)+1)+1)) M6:=eW6 _ (by rw [List.length_set];omega) xM5
   have cK2':=cK2
   have c6':=c6
   unfold ribB at cK2' c6'
   have hlow:refsLow K'.length wv:=oW2.low_refs
   have hsp:=@Nat.succ_ne_zero;repeat' (first|simp (disch:=first|exact dqd|fail) only [go_sem,↓reduceIte,hsp,r49,d0,d8,d9,d48,q0,q3,q8,q9,q10,q20,hlt2]|refine WP_drw ?_|refine cnd_intro (fun hsp=>?_) fun hsp=>?_)
   refine WPS_go ?_
   refine WP_wild [⟨1,36,51,⟨G1.length,0,2⟩,wv,14⟩] (by kernel_rfl) (by kernel_rfl) (by kernel_rfl) ⟨hlow,trivial⟩ fun KK hK=>?_
   iterate 17
    rw [TRS_cons]
    refine ⟨by first|(simp (disch:=first|exact dqd|fail) only [go_sem,↓reduceIte,r49,d0,d8,d9,d48,q0,q3,q8,q9,q10,q20,cK2',e1,cM1,e2,cM2,e3,cM3,e4,cM4,e5,cM5,bsw,ea,c6',ldsQ_cons,ldsQ_nil,grdQ_cons,grdQ_nil,if_true,Nat.reduceLeDiff];done)|exact trivial,?_⟩
    simp (disch:=first|exact dqd|fail) only [go_sem,↓reduceIte,r49,d0,d8,d9,d48,q0,q3,q8,q9,q10,q20,cK2',e1,cM1,e2,cM2,e3,cM3,e4,cM4,e5,cM5,bsw,ea,c6']
   rw [TRS_nil]
   refine ⟨by first|(simp (disch:=first|exact dqd|fail) only [go_sem,↓reduceIte,r49,d0,d8,d9,d48,q0,q3,q8,q9,q10,q20,cK2',e1,cM1,e2,cM2,e3,cM3,e4,cM4,e5,cM5,bsw,ea,c6',ldsQ_cons,ldsQ_nil,grdQ_cons,grdQ_nil,if_true,Nat.reduceLeDiff];done)|exact trivial,?_⟩
   subst hK
   have hsp:=@Nat.succ_ne_zero;repeat' (first|simp (disch:=first|exact dqd|fail) only [go_sem,↓reduceIte,hsp,r49,d0,d8,d9,d48,q0,q3,q8,q9,q10,q20]|refine WP_drw ?_|refine cnd_intro (fun hsp=>?_) fun hsp=>?_)
   refine ⟨agq,by omega,W++[wr],w',_,?_,Ext.set x6 (by rw [List.length_set];omega),g6,rfl,Own.setBox f6 c6,Own.setBox oW6 c6,by simp;omega,fun w hw=>?_,by omega⟩
   ·omega
   ·rcases List.mem_append.1 hw with hw|hw
    ·exact hWo w hw
    ·rw [List.mem_singleton] at hw;rw [hw];exact hwr
  ·rintro fr2 K' hA2 ⟨r49,W,wv,k2,hk2,xK2,gK2,cK2,oF2,oW2,hWl,hWo,lK2⟩
   have d0:=hA2 0 rfl
   have d8:=hA2 8 rfl
   have d9:=hA2 9 rfl
   have d48:=hA2 48 rfl
   try simp (disch:=first|exact dqd|fail) only [go_sem,↓reduceIte,q0,q8,q9] at d0 d8 d9 d48
   have hlt2:((z:Int)<(z:Int))=False:=eq_false (by omega)
   have owv:=oW2.one
   have gK2':=gK2
   have cK2':=cK2
   unfold ribB at gK2' cK2'
   have hsp:=@Nat.succ_ne_zero;repeat' (first|simp (disch:=first|exact dqd|fail) only [go_sem,↓reduceIte,hsp,r49,d0,d8,d9,d48,q0,q3,q8,q9,q10,q20,hlt2,cK2',gK2']|refine WP_drw ?_|refine cnd_intro (fun hsp=>?_) fun hsp=>?_)
   refine ⟨L,F,W,fv,wv,k2,rfl,by omega,Ext.set xK2 (by rw [List.length_set];omega),(oF2.setBox gK2').low (by omega),(oW2.setBox gK2').low (by omega),⟨by simp only;omega,by simp only;omega,by simp only;omega,hWo,fun y hy=>by have:=hFb y hy;simp only;omega,hFs⟩,hL.2,by omega,by omega⟩
end Go.AM
namespace Go.AM
open Go.Proofs.Tryz
attribute [-go_sem] put_ne put_same
attribute [local go_sem ↓] put_if
structure RibX where
 L:Int
 f:AVal
 w:AVal
def encX:Enc RibX:=⟨3,fun p=>[.int .i64 p.L,Flt.norm p.f,Flt.norm p.w],fun _=>rfl,by decide⟩
theorem encX_sc:∀ y,(encX.cells y).all AVal.scalar=true:=fun y=>by
 have h:∀ v,(Flt.norm v).scalar=true:=fun v=>by unfold Flt.norm;split<;>first|assumption|rfl
 show (true && ((Flt.norm y.f).scalar && ((Flt.norm y.w).scalar && true)))=true
 rw [h,h];rfl
def RibsAt (h:Heap) (v:AVal) (Q:List Rib):Prop:=∃ vs:List RibX,Rows encX h v vs∧vs.length=Q.length∧∀ (i:Nat) x q,vs[i]?=some x→Q[i]?=some q→x.L=q.L∧Ints h x.f q.F
theorem RibsAt.ext {h H:Heap} {v:AVal} {Q:List Rib} (x:RibsAt h v Q) (e:Ext h H):RibsAt H v Q:=by
 obtain ⟨vs,h1,h2,h3⟩:=x
 exact ⟨vs,h1.ext e,h2,fun i y q a b=>⟨(h3 i y q a b).1,(h3 i y q a b).2.ext e⟩⟩
theorem RibsAt.at {h:Heap} {v:AVal} {Q:List Rib} (x:RibsAt h v Q) {p:Nat} (hp:p<Q.length):∃ f,indexAddrA prog 40 v (.int .i64 (p:Int))=some (elAdr v encX.z p 0)∧fieldAddrA prog 38 (elAdr v encX.z p 0) 0=some (elAdr v encX.z p 0)∧fieldAddrA prog 38 (elAdr v encX.z p 0) 1=some (elAdr v encX.z p 1) ∧
  Ints h f (Q.getD p ⟨1,[],[]⟩).F∧(∀ H,Ext h H→loadP prog H 3 (elAdr v encX.z p 0)=some (.int .i64 (Q.getD p ⟨1,[],[]⟩).L)∧loadP prog H 35 (elAdr v encX.z p 1)=some f):=by
 obtain ⟨vs,h1,h2,h3⟩:=x
 have hpv:p<vs.length:=by omega
 obtain ⟨q1,q2⟩:=h3 p vs[p] Q[p] (List.getElem?_eq_getElem hpv) (List.getElem?_eq_getElem hp)
 have a:=h1.addr (P:=prog) (i:=(p:Int)) Fc.el40 Fc.ar40 (by omega) (by omega)
 rw [Int.toNat_natCast] at a
 rw [getD_at hp]
 refine ⟨vs[p].f,a,elAdr_field (P:=prog) (o:=0) (off:=0) (q:=false) (n:=1) h1 hpv (by kernel_rfl) (by decide),elAdr_field (P:=prog) (o:=0) (off:=1) (q:=false) (n:=1) h1 hpv (by kernel_rfl) (by decide),q2,fun H e=>⟨?_,?_⟩⟩
 ·rw [← q1]
  exact (h1.ext e).cell Fc.ty3 (List.getElem?_eq_getElem hpv) rfl
 ·have:=(h1.ext e).cell (P:=prog) (t:=35) (o:=1) Fc.ty35 (List.getElem?_eq_getElem hpv) rfl
  rw [Flt.norm_one q2.one] at this
  exact this
theorem RibsAt.len {h:Heap} {v:AVal} {Q:List Rib} (x:RibsAt h v Q):lenOpA prog h 40 v=some (.int .i64 (Q.length:Int)):=by
 obtain ⟨vs,h1,h2,_⟩:=x
 have:=h1.len (P:=prog) Fc.el40
 rwa [h2] at this
theorem RibsAt.one {h:Heap} {v:AVal} {Q:List Rib} (x:RibsAt h v Q):One v:=by
 obtain ⟨vs,h1,_⟩:=x
 exact h1.one
theorem pkQ_take {Q:List Rib} {ps:List Int} {j:Nat} (hj:j<ps.length):pkQ Q (ps.take (j+1))=pkQ Q (ps.take j)++[Q.getD (ps.getD j 0).toNat ⟨1,[],[]⟩]:=by
 unfold pkQ
 rw [List.take_add_one,getD_some (d:=0) hj,List.map_append]
 rfl
set_option maxHeartbeats 4000000 in
theorem run_sewn {base wb lb:Nat} {h:Heap} {pv wv lv:AVal} {ps:List Int} {W:List Wnt} {Q:List Rib} (hI:Ints h pv ps) (hp:∀ p ∈ ps,0≤p∧p<(Q.length:Int)) (hn:1≤ps.length∧ps.length≤6) (hw:h[wb]?=some ⟨.cells [wv] 36 false false,0⟩) (hl:h[lb]?=some ⟨.cells [lv] 40 false false,0⟩)
  (hWr:Rows encW h wv W) (hW:WsOk W) (hQ:RibsAt h lv Q) (g:∀ q ∈ Q,GoodQ q) :
  callL prog raw base (.fn 11 [] [.ptr (some ⟨wb,0,0⟩),.ptr (some ⟨lb,0,0⟩)]) [pv] h=some (.tuple [.int .i64 (sewV W (pkQ Q ps)),.bool true],h):=by
 have gq:=pkQ_good g hp
 have lq:(pkQ Q ps).length=ps.length:=by simp [pkQ]
 have sk:∀ j,j≤ps.length→SewOk W j (sewR W (pkQ Q (ps.take j))):=fun j hj=>by
  have:=sew_is (W:=W) (l:=pkQ Q (ps.take j)) (pkQ_good g fun p h=>hp p (List.mem_of_mem_take h))
  have e:(pkQ Q (ps.take j)).length=j:=by unfold pkQ;rw [List.length_map,List.length_take];omega
  rwa [e] at this
 have owv:=hWr.one
 have opv:=hI.one
 have olv:=hQ.one
 have nI:=lenI hI
 obtain ⟨G,eG⟩:∃ G,G=h++[ribB 0 (.slice none 0 0) wv]:=⟨_,rfl⟩
 have xG:Ext h G:=by rw [eG];exact .app .refl
 have lG:G.length=h.length+1:=by rw [eG];simp
 have g0:G[h.length]?=some (ribB 0 (.slice none 0 0) wv):=by rw [eG];exact get_eq rfl
 have nG:=lenI (hI.ext xG)
 unfold ribB at eG
 refine callL_run func11 rfl rfl ?_
 have hsp:=@Nat.succ_ne_zero;repeat' (first|simp (disch:=first|exact dqb|fail) only [go_sem,↓reduceIte,hsp,hw,← eG,nG]|refine WP_drw ?_|refine cnd_intro (fun hsp=>?_) fun hsp=>?_)
 refine WP_count [(8,10),(18,51)] 0 ps.length (Nat.zero_le _) (fun _ j fr h'=>fr 18=.int .i64 (j:Int)∧∃ fv,Ext h h'∧h'[h.length]?=some (ribB (sewR W (pkQ Q (ps.take j))).L fv wv)∧Own encI 3 (h.length+1) h' fv (sewR W (pkQ Q (ps.take j))).F) ?_ ?_ ?_
 ·exact ⟨by (simp (disch:=first|exact dqb|fail) only [go_sem,↓reduceIte,Int.natCast_zero];first|done|rfl),.slice none 0 0,xG,g0,Own.nil⟩
 ·rintro j fr H hj0 hj hAg ⟨p18,fv,xH,gH,oF⟩
  have p2:=hAg 2 rfl
  have p4:=hAg 4 rfl
  have p5:=hAg 5 rfl
  have p6:=hAg 6 rfl
  have p16:=hAg 16 rfl
  have p17:=hAg 17 rfl
  try simp (disch:=first|exact dqb|fail) only [go_sem,↓reduceIte] at p2 p4 p5 p6 p16 p17
  have hlt:((j:Int)<(ps.length:Int))=True:=eq_true (by omega)
  have iH:=hI.ext xH
  have aP:=adrI (i:=(j:Int)) (by omega) iH (by omega)
  rw [Int.toNat_natCast] at aP
  have dP:=loadI iH hj
  obtain ⟨n,en⟩:∃ n:Nat,ps.getD j 0=(n:Int):=⟨(ps.getD j 0).toNat,by have:=hp _ (getD_mem hj);omega⟩
  have hnQ:n<Q.length:=by have:=hp _ (getD_mem hj);omega
  rw [en] at dP
  have hlH:=xH.get hl
  obtain ⟨f,aQ,f0,f1,iF,dQ⟩:=hQ.at hnQ
  obtain ⟨q,eq⟩:∃ q,q=Q.getD n ⟨1,[],[]⟩:=⟨_,rfl⟩
  have hgq:GoodQ q:=by rw [eq,getD_at hnQ];exact g _ (List.getElem_mem hnQ)
  rw [← eq] at iF dQ
  obtain ⟨r,er⟩:∃ r,r=sewR W (pkQ Q (ps.take j)):=⟨_,rfl⟩
  have hr:=sk j (by omega)
  rw [← er] at hr gH oF
  have er2:sewR W (pkQ Q (ps.take (j+1)))=joinR r q:=by rw [pkQ_take hj,sew_one,en,Int.toNat_natCast,← eq,er]
  have of:=iF.one
  have nF:=lenI (iF.ext xH)
  have b1:=hr.L
  have b2:=hr.n
  have b3:=hgq.L
  have b4:=hgq.n
  have dH:=dQ H xH
  have hsp:=@Nat.succ_ne_zero;repeat' (first|simp (disch:=first|exact dqb|fail) only [go_sem,↓reduceIte,hsp,p2,p4,p5,p6,p16,p17,p18,hlt,aP,dP,hlH,aQ,f1,dH.2,nF]|refine WP_drw ?_|refine cnd_intro (fun hsp=>?_) fun hsp=>?_)
  refine WP_count [(10,10),(28,41)] 0 q.F.length (Nat.zero_le _) (fun _ i fr h'=>fr 28=.int .i64 (i:Int)∧∃ fv,Ext h h'∧h'[h.length]?=some (ribB r.L fv wv)∧Own encI 3 (h.length+1) h' fv (r.F++(q.F.take i).map (r.L+·))) ?_ ?_ ?_
  ·exact ⟨by (simp (disch:=first|exact dqb|fail) only [go_sem,↓reduceIte,Int.natCast_zero];first|done|rfl),fv,xH,gH,by simpa using oF⟩
  ·rintro i fr2 K hi0 hi hB ⟨d28,fv2,xK,gK,oK⟩
   have d2:=hB 2 rfl
   have d4:=hB 4 rfl
   have d5:=hB 5 rfl
   have d6:=hB 6 rfl
   have d8:=hB 8 rfl
   have d16:=hB 16 rfl
   have d17:=hB 17 rfl
   have d18:=hB 18 rfl
   have d26:=hB 26 rfl
   have d27:=hB 27 rfl
   try simp (disch:=first|exact dqb|fail) only [go_sem,↓reduceIte,p2,p4,p5,p6,p16,p17,p18] at d2 d4 d5 d6 d8 d16 d17 d18 d26 d27
   have hlt2:((i:Int)<(q.F.length:Int))=True:=eq_true (by omega)
   have iK:=iF.ext xK
   have aK:=adrI (i:=(i:Int)) (by omega) iK (by omega)
   rw [Int.toNat_natCast] at aK
   have dK:=loadI iK hi
   obtain ⟨x,ex⟩:∃ x,x=q.F.getD i 0:=⟨_,rfl⟩
   rw [← ex] at dK
   have hx:0≤x∧x<q.L:=by rw [ex];exact hgq.F _ (getD_mem hi)
   have lK:=lt_of_get gK
   have o2:=oK.one
   obtain ⟨w',K',ea,oW,lW,eW,oneW,kW⟩:=oK.append1X (P:=prog) (y:=r.L+x) (a:=.int .i64 (r.L+x)) (base:=h.length) (t:=35) rfl rfl Fc.el35 encI_sc (by omega) (by omega) (by simp;omega)
   have kW:KeepO encI 3 K K':=kW
   have gK':=kW.box gK
   unfold ribB at gK
   have hsp:=@Nat.succ_ne_zero;repeat' (first|simp (disch:=first|exact dqb|fail) only [go_sem,↓reduceIte,hsp,d2,d4,d5,d6,d8,d16,d17,d18,d26,d27,d28,p2,p4,p5,p6,p16,p17,p18,hlt2,aK,dK,gK,ea,gK']|refine WP_drw ?_|refine cnd_intro (fun hsp=>?_) fun hsp=>?_)
   refine ⟨agq,by omega,w',(eW h (by omega) xK).set (Nat.le_refl _),rfl,?_⟩
   rw [List.take_add_one,getD_some (d:=0) hi,← ex,List.map_append,← List.append_assoc]
   exact oW.setBox gK'
  ·rintro fr2 K hB ⟨d28,fv2,xK,gK,oK⟩
   have d2:=hB 2 rfl
   have d4:=hB 4 rfl
   have d5:=hB 5 rfl
   have d6:=hB 6 rfl
   have d8:=hB 8 rfl
   have d16:=hB 16 rfl
   have d17:=hB 17 rfl
   have d18:=hB 18 rfl
   have d26:=hB 26 rfl
   have d27:=hB 27 rfl
   try simp (disch:=first|exact dqb|fail) only [go_sem,↓reduceIte,p2,p4,p5,p6,p16,p17,p18] at d2 d4 d5 d6 d8 d16 d17 d18 d26 d27
   have hlt2:((q.F.length:Int)<(q.F.length:Int))=False:=eq_false (by omega)
   have hlK:=xK.get hl
   have dK:=dQ K xK
   have o2:=oK.one
   have gK':=gK
   unfold ribB at gK
   have hsp:=@Nat.succ_ne_zero;repeat' (first|simp (disch:=first|exact dqb|fail) only [go_sem,↓reduceIte,hsp,d2,d4,d5,d6,d8,d16,d17,d18,d26,d27,d28,p2,p4,p5,p6,p16,p17,p18,hlt2,gK,hlK,aQ,f0,dK.1]|refine WP_drw ?_|refine cnd_intro (fun hsp=>?_) fun hsp=>?_)
   refine ⟨agq,by omega,fv2,xK.set (Nat.le_refl _),by rw [er2,List.getElem?_set_self (lt_of_get gK)];rfl,?_⟩
   rw [er2]
   rw [List.take_length] at oK
   exact oK.setBox gK'
 ·rintro fr H hAg ⟨p18,fv,xH,gH,oF⟩
  have p2:=hAg 2 rfl
  have p4:=hAg 4 rfl
  have p5:=hAg 5 rfl
  have p6:=hAg 6 rfl
  have p16:=hAg 16 rfl
  have p17:=hAg 17 rfl
  try simp (disch:=first|exact dqb|fail) only [go_sem,↓reduceIte] at p2 p4 p5 p6 p16 p17
  have hlt:((ps.length:Int)<(ps.length:Int))=False:=eq_false (by omega)
  have hr:=sk ps.length (Nat.le_refl _)
  rw [List.take_length] at hr gH oF
  obtain ⟨r,er⟩:∃ r,r=sewR W (pkQ Q ps):=⟨_,rfl⟩
  rw [← er] at hr gH oF
  have b1:=hr.L
  have b2:=hr.n
  have of1:=oF.one
  have ok:=hr.rib hW hn
  have lH:=lt_of_get gH
  have hA:RibAt H (.agg [.int .i64 r.L,fv,wv]) r:=⟨fv,wv,rfl,own_ints oF ⟨by omega,fun x hx=>by have:=hr.F x hx;omega⟩,by rw [hr.W];exact hWr.ext xH⟩
  obtain ⟨_,H2,e2,x2,u,rfl,oU⟩:=run_Best (base:=h.length) (h:=H) (by omega) hA (by omega)
  rw [chkR_iff.2 ok,allE_ok ok] at e2
  have ou:=oU.one
  have ev:sewV W (pkQ Q ps)=valD r 0:=by unfold sewV;rw [er]
  rw [ev]
  unfold ribB at gH
  have hsp:=@Nat.succ_ne_zero;repeat' (first|simp (disch:=first|exact dqb|fail) only [go_sem,↓reduceIte,hsp,p2,p4,p5,p6,p16,p17,p18,hlt,gH,e2]|refine WP_drw ?_|refine cnd_intro (fun hsp=>?_) fun hsp=>?_)
  exact fin_pl rfl rfl (xH.trans x2)
end Go.AM
namespace Go.AM
open Go.Proofs.Tryz
attribute [-go_sem] put_ne put_same
attribute [local go_sem ↓] put_if
def OwnR (b:Nat) (H:Heap) (v:AVal) (Q:List Rib):Prop:=∃ vs:List RibX,Own encX 38 b H v vs∧vs.length=Q.length∧∀ (i:Nat) x q,vs[i]?=some x→Q[i]?=some q→x.L=q.L∧Own encI 3 b H x.f q.F
section
variable {b base:Nat} {A H:Heap} {v w fv wv:AVal} {Q:List Rib} {F:List Int} {W:List Wnt} {L:Int}
theorem OwnR.nil:OwnR b H (.slice none 0 0) []:=⟨[],Own.nil,rfl,fun i x q h=>by simp at h⟩
theorem OwnR.ext (x:OwnR b A v Q) (e:Ext A H):OwnR b H v Q:=by
 obtain ⟨vs,h1,h2,h3⟩:=x
 exact ⟨vs,h1.ext e,h2,fun i y q a c=>⟨(h3 i y q a c).1,(h3 i y q a c).2.ext e⟩⟩
theorem OwnR.box {i:Nat} {c:List AVal} {t:TypeId} {ro:Bool} {u:Nat} {k:ABlk} (x:OwnR b A v Q) (hg:A[i]?=some ⟨.cells c t false ro,u⟩):OwnR b (A.set i k) v Q:=by
 obtain ⟨vs,h1,h2,h3⟩:=x
 exact ⟨vs,h1.setBox hg,h2,fun i y q a c=>⟨(h3 i y q a c).1,(h3 i y q a c).2.setBox hg⟩⟩
theorem OwnR.one (x:OwnR b A v Q):One v:=by
 obtain ⟨vs,h1,_⟩:=x
 exact h1.one
theorem OwnR.low_refs (x:OwnR b A v Q):refsLow A.length v:=by
 obtain ⟨vs,h1,_⟩:=x
 exact h1.low_refs
theorem OwnR.ribs (x:OwnR b A v Q) (g:∀ q ∈ Q,GoodQ q) (hl:Q.length≤1000):RibsAt A v Q:=by
 obtain ⟨vs,h1,h2,h3⟩:=x
 refine ⟨vs,h1.rows (by omega),h2,fun i y q a c=>⟨(h3 i y q a c).1,own_ints (h3 i y q a c).2 ?_⟩⟩
 have gq:=g q (List.mem_of_getElem? c)
 exact ⟨by have:=gq.n;omega,fun z hz=>by have:=gq.F z hz;have:=gq.L;omega⟩
theorem OwnR.snoc (hO:OwnR b A w Q) (oF:Own encI 3 b A fv F) (hb:base≤b) (hbh:b≤A.length) (hl:Q.length≤1000) :
  ∃ w' H,appendA prog base (A++[rowE encX 38 [⟨L,fv,wv⟩] 0]) 40 w (.slice (some ⟨A.length,0,0⟩) 1 1)=some (w',H)∧OwnR b H w' (Q++[⟨L,F,W⟩])∧A.length≤H.length∧(∀ G,G.length≤b→Ext G A→Ext G H)∧One w'∧KeepO encX 38 A H:=by
 obtain ⟨vs,h1,h2,h3⟩:=hO
 obtain ⟨B,eB⟩:∃ B,B=A++[rowE encX 38 [⟨L,fv,wv⟩] 0]:=⟨_,rfl⟩
 have xB:Ext A B:=by rw [eB];exact .app .refl
 have lB':B.length=A.length+1:=by rw [eB];simp
 have hx:Rows encX B (.slice (some ⟨A.length,0,0⟩) 1 1) [⟨L,fv,wv⟩]:=Rows.own (by rw [eB];exact get_eq rfl) rfl (by simp)
 rw [← eB]
 obtain ⟨w',H,a1,a2,a3,a4,a5,a6⟩:=(h1.ext xB).appendRX (P:=prog) (base:=base) (t:=40) hx Fc.el40 encX_sc hb (by omega) (by simp) (by simp;omega)
 have a6:KeepO encX 38 B H:=a6
 refine ⟨w',H,a1,⟨vs++[⟨L,fv,wv⟩],a2,by simp [h2],fun i y q ha hc=>?_⟩,by omega,fun G h1 h2=>a4 G h1 (h2.trans xB),a5,fun i y hi hy=>a6 i y (xB.get hi) hy⟩
 have hi:=(List.getElem?_eq_some_iff.1 ha).1
 simp at hi
 by_cases e:i=vs.length
 ·subst e
  rw [List.getElem?_append_right (Nat.le_refl _),Nat.sub_self] at ha
  rw [h2,List.getElem?_append_right (Nat.le_refl _),Nat.sub_self] at hc
  obtain rfl:=Option.some.inj ha
  obtain rfl:=Option.some.inj hc
  exact ⟨rfl,a6.own (oF.ext xB) (by decide)⟩
 ·rw [List.getElem?_append_left (by omega)] at ha hc
  obtain ⟨q1,q2⟩:=h3 i y q ha hc
  exact ⟨q1,a6.own (q2.ext xB) (by decide)⟩
theorem bsX {lit:Bool} (o1:One fv) (o2:One wv):bsA prog lit A 40 1 [(0,.agg [.int .i64 L,fv,wv])]=some (.slice (some ⟨A.length,0,0⟩) 1 1,A++[rowE encX 38 [⟨L,fv,wv⟩] 0]):=by
 simp [bsA,rowOf,Fc.el40,fillA,repCells,AVal.isN,AVal.cells,splice,rowE,flat,encX,Flt.norm_one o1,Flt.norm_one o2]
theorem SetsAt.ext {S:List (List Int)} (x:SetsAt b A v S) (e:Ext A H):SetsAt b H v S:=x.keep fun _ _ _ h _=>e.get h
end
end Go.AM
namespace Go.AM
open Go.Proofs.Tryz
attribute [-go_sem] put_ne put_same
attribute [local go_sem ↓] put_if
abbrev wnB (v:AVal):ABlk:=⟨.cells [v] 36 false false,0⟩
abbrev rbB (v:AVal):ABlk:=⟨.cells [v] 40 false false,0⟩
theorem stT26 {base:Nat} {l:List Oper} {s:St} {Q:AExit→St→Prop}:WP prog raw base (.region 10 l.toArray true) s Q=WPS prog raw base (.region 10 l.toArray true) s Q:=WP_stop
attribute [local go_sem ↓ 3000] stT26
set_option maxRecDepth 100000 in
set_option maxHeartbeats 8000000 in
theorem run_TopSewn {base:Nat} {h:Heap} {v0 v1:AVal} {l0 l1:List Int} (hB0:Bytes h v0 l0) (hB1:Bytes h v1 l1) :
  callL prog raw base (.fn 3 [] []) [v0,v1] h=some (.bool true,h):=by
 have hw0:=run_wound (base:=h.length) hB0
 have hS0:SpAt (h++[spB v0 l0 0]) h.length v0 l0 0:=SpAt.new hB0 rfl
 obtain ⟨tv,H1,e1,T,k1,y1,hk1,tT,ok,nP6⟩:=run_Made6 (base:=h.length) (by simp) hS0 (by omega)
 have x1:Ext h H1:=y1.old'
 have n1:=y1.len
 simp only [List.length_append,List.length_cons,List.length_nil] at n1
 have tT':=tT
 obtain ⟨ev,lv0,pv,rfl,hE,hL,hP⟩:=tT'
 have oe:=hE.one
 have ol:=hL.one
 have op:=hP.one
 obtain ⟨G1,eG1⟩:∃ G1,G1=H1++[tbB ev lv0 pv]:=⟨_,rfl⟩
 have xG1:Ext H1 G1:=by rw [eG1];exact .app .refl
 have lG1:G1.length=H1.length+1:=by rw [eG1];simp
 have g1:G1[H1.length]?=some (tbB ev lv0 pv):=by rw [eG1];exact get_eq rfl
 obtain ⟨_,G2,e2,x2,sv,S,rfl,hS,hPt⟩:=run_Sort (base:=h.length) (by omega) (tT.ext xG1) ok
 have osv:=hS.one
 have n2:=x2.len
 have xhG2:Ext h G2:=x1.trans (xG1.trans x2)
 have g2:=x2.get g1
 have hB12:=hB1.ext xhG2
 have hw1:=run_wound (base:=h.length) hB12
 obtain ⟨G3,eG3⟩:∃ G3,G3=G2++[spB v1 l1 0]:=⟨_,rfl⟩
 have spN:SpAt G3 G2.length v1 l1 0:=by rw [eG3];exact SpAt.new hB12 rfl
 have hv1:=spN.2.2
 rw [← eG3] at hw1
 have lG3:G3.length=G2.length+1:=by rw [eG3];simp
 obtain ⟨_,H4,e4,L4,F4,W,fv4,wv,k4,rfl,hk4,y4,oF4,oW,ok4,hL4,hF4,hW4⟩:=run_LMadeD (base:=h.length) (A:=9) (B:=2) (D:=5) (by omega) spN (by omega) (by omega) (by omega) (by omega)
 have owv:=oW.one
 have of4:=oF4.one
 have n4:=y4.len
 have x4:Ext G2 H4:=by
  have y4':=y4
  rw [eG3] at y4'
  exact y4'.old'
 have sp4:H4[G2.length]?=some (spB v1 l1 k4):=(y4.at spN).1
 have hW:WsOk W:=⟨by omega,ok4.W⟩
 obtain ⟨G5,eG5⟩:∃ G5,G5=H4++[wnB wv]:=⟨_,rfl⟩
 have x5:Ext H4 G5:=by rw [eG5];exact .app .refl
 have lG5:G5.length=H4.length+1:=by rw [eG5];simp
 have g5:G5[H4.length]?=some (wnB wv):=by rw [eG5];exact get_eq rfl
 obtain ⟨G6,eG6⟩:∃ G6,G6=G5++[rbB (.slice none 0 0)]:=⟨_,rfl⟩
 have x6:Ext G5 G6:=by rw [eG6];exact .app .refl
 have lG6:G6.length=H4.length+2:=by rw [eG6];simp [lG5]
 have g6:G6[G5.length]?=some (rbB (.slice none 0 0)):=by rw [eG6];exact get_eq rfl
 have x26:Ext G2 G6:=x4.trans (x5.trans x6)
 have g26:=x26.get g2
 have nP:=(hP.ext (xG1.trans (x2.trans x26))).len (P:=prog) Fc.el25
 obtain ⟨n,en⟩:∃ n,n=T.P.length:=⟨_,rfl⟩
 rw [← en] at nP hPt nP6
 unfold tbB at eG1 g1 g2 g26
 unfold wnB at eG5
 unfold rbB at eG6
 refine callL_run func3 rfl rfl ?_
 have hsp:=@Nat.succ_ne_zero;repeat' (first|simp (disch:=first|exact dqd|fail) only [go_sem,↓reduceIte,hsp,hw0,e1,← eG1,g1,e2,hw1,e4,← eG5,← eG6,g26,nP]|refine WP_drw ?_|refine cnd_intro (fun hsp=>?_) fun hsp=>?_)
 refine WP_count [(44,51)] 0 n (Nat.zero_le _) (fun _ i fr h'=>fr 44=.int .i64 (i:Int)∧∃ Q lv kk,kk≤200+100 * i∧Ext G2 h'∧h'[G2.length]?=some (spB v1 l1 kk)∧h'[H4.length]?=some (wnB wv)∧h'[G5.length]?=some (rbB lv)∧Own encW 74 G3.length h' wv W∧OwnR (G5.length+1) h' lv Q∧Q.length=i∧∀ q ∈ Q,GoodQ q) ?_ ?_ ?_
 ·exact ⟨by (simp (disch:=first|exact dqd|fail) only [go_sem,↓reduceIte,Int.natCast_zero];first|done|rfl),[],.slice none 0 0,k4,by omega,x26,(x5.trans x6).get sp4,x6.get g5,g6,oW.ext (x5.trans x6),OwnR.nil,rfl,by simp⟩
 ·rintro i fr K hi0 hi hAg ⟨p44,Q,lv,kk,hkk,xK,gK,wK,rK,oWK,oRK,hQl,hQg⟩
  have p4:=hAg 4 rfl
  have p6:=hAg 6 rfl
  have p8:=hAg 8 rfl
  have p9:=hAg 9 rfl
  have p10:=hAg 10 rfl
  have p43:=hAg 43 rfl
  try simp (disch:=first|exact dqd|fail) only [go_sem,↓reduceIte] at p4 p6 p8 p9 p10 p43
  have hlt:((i:Int)<(n:Int))=True:=eq_true (by omega)
  have olv:=oRK.one
  have lK:=lt_of_get rK
  have spK:SpAt K G2.length v1 l1 kk:=⟨gK,hB1.ext (xhG2.trans xK),hv1⟩
  obtain ⟨_,K2,e5,L5,F5,W5,fv5,wv5,k5,rfl,hk5,y5,oF5,oW5,ok5,hL5,hF5,hW5⟩:=run_LMadeD (base:=h.length) (A:=9) (B:=2) (D:=0) (by omega) spK (by omega) (by omega) (by omega) (by omega)
  have o5:=oF5.one
  have o6:=oW5.one
  have n5:=y5.len
  have xK2:Ext G2 K2:=Ext.trans (xK.set (Nat.le_refl _)) y5
  have gK2:K2[G2.length]?=some (spB v1 l1 k5):=(y5.at spK).1
  have wK2:K2[H4.length]?=some (wnB wv):=y5.get (by omega) wK
  have rK2:K2[G5.length]?=some (rbB lv):=y5.get (by omega) rK
  have gK':=gK
  unfold spB at gK'
  have oWK2:Own encW 74 G3.length K2 wv W:=(oWK.setBox gK').ext y5
  have oRK2:OwnR (G5.length+1) K2 lv Q:=(oRK.box gK').ext y5
  have gq:GoodQ ⟨L5,F5,W5⟩:=⟨by have:=ok5.L;simp only at this ⊢;omega,by simp only;omega,fun u hu=>by have:=ok5.F u hu;simp only at this ⊢;omega,ok5.s⟩
  obtain ⟨w',K3,ea,oR3,l3,eE3,one3,kp⟩:=oRK2.snoc (base:=h.length) (L:=L5) (W:=W5) (wv:=wv5) (oF5.low (b':=G5.length+1) (by omega)) (by omega) (by omega) (by omega)
  have bx:=fun (lit:Bool)=>bsX (lit:=lit) (A:=K2) (L:=L5) o5 o6
  have r3:=kp.box rK2
  have w3:=kp.box wK2
  have gK2':=gK2
  unfold spB at gK2'
  have s3:=kp.box gK2'
  have hlow:refsLow K.length lv:=oRK.low_refs
  have rK':=rK
  have rK2':=rK2
  unfold rbB at rK' rK2'
  have hsp:=@Nat.succ_ne_zero;repeat' (first|simp (disch:=first|exact dqd|fail) only [go_sem,↓reduceIte,hsp,p4,p6,p8,p9,p10,p43,p44,hlt]|refine WP_drw ?_|refine cnd_intro (fun hsp=>?_) fun hsp=>?_)
  refine WPS_go ?_
  refine WP_wild [⟨0,40,10,⟨G5.length,0,0⟩,lv,4⟩] (by kernel_rfl) (by kernel_rfl) (by kernel_rfl) ⟨hlow,trivial⟩ fun KK hK=>?_
  iterate 6
   rw [TRS_cons]
   refine ⟨by first|(simp (disch:=first|exact dqd|fail) only [go_sem,↓reduceIte,p4,p6,p8,p9,p10,p43,p44,rK',e5,rK2',bx,ea,r3,ldsQ_cons,ldsQ_nil,grdQ_cons,grdQ_nil,if_true,Nat.reduceLeDiff];done)|exact trivial,?_⟩
   simp (disch:=first|exact dqd|fail) only [go_sem,↓reduceIte,p4,p6,p8,p9,p10,p43,p44,rK',e5,rK2',bx,ea,r3]
  rw [TRS_nil]
  refine ⟨by first|(simp (disch:=first|exact dqd|fail) only [go_sem,↓reduceIte,p4,p6,p8,p9,p10,p43,p44,rK',e5,rK2',bx,ea,r3,ldsQ_cons,ldsQ_nil,grdQ_cons,grdQ_nil,if_true,Nat.reduceLeDiff];done)|exact trivial,?_⟩
  subst hK
  have hsp:=@Nat.succ_ne_zero;repeat' (first|simp (disch:=first|exact dqd|fail) only [go_sem,↓reduceIte,hsp,p4,p6,p8,p9,p10,p43,p44]|refine WP_drw ?_|refine cnd_intro (fun hsp=>?_) fun hsp=>?_)
  refine ⟨agq,by omega,Q++[⟨L5,F5,W5⟩],w',k5,by omega,(eE3 G2 (by omega) xK2).set (by omega),by first|exact s3|(rw [List.getElem?_set_ne (by omega)];exact s3),by first|exact w3|(rw [List.getElem?_set_ne (by omega)];exact w3),by first|rfl|rw [List.getElem?_set_self (lt_of_get r3)],(kp.own oWK2 (by decide)).setBox r3,oR3.box r3,by simp;omega,fun q hq=>?_⟩
  rcases List.mem_append.1 hq with hq|hq
  ·exact hQg q hq
  ·rw [List.mem_singleton] at hq
   rw [hq];exact gq
 ·rintro fr J hAg ⟨p44,Q,lv,kk,hkk,xJ,gJ,wJ,rJ,oWJ,oRJ,hQl,hQg⟩
  have p4:=hAg 4 rfl
  have p6:=hAg 6 rfl
  have p8:=hAg 8 rfl
  have p9:=hAg 9 rfl
  have p10:=hAg 10 rfl
  have p43:=hAg 43 rfl
  try simp (disch:=first|exact dqd|fail) only [go_sem,↓reduceIte] at p4 p6 p8 p9 p10 p43
  have hlt:((n:Int)<(n:Int))=False:=eq_false (by omega)
  have lJ:=lt_of_get rJ
  have xhJ:Ext h J:=xhG2.trans xJ
  have hSJ:SetsAt G1.length J sv S:=hS.ext xJ
  have nSJ:=hSJ.len (H':=J)
  have hQ:RibsAt J lv Q:=oRJ.ribs hQg (by omega)
  have hWr:Rows encW J wv W:=oWJ.rows (by omega)
  have hSp:∀ s ∈ S,∀ q ∈ s,0≤q∧q<(Q.length:Int):=fun s hs q hq=>by have:=hPt.2.2 s hs q hq;omega
  have hSl:S.flatten.length=n:=hPt.1
  have hS6:S.length≤6:=by have:=PartOk.le (n:=n) (S:=S) hPt.2.1;omega
  have sew:∀ {base:Nat} {K:Heap} {pv:AVal} {ps:List Int},Ext J K→Ints K pv ps→(∀ q ∈ ps,0≤q∧q<(Q.length:Int))→1≤ps.length∧ps.length≤6→callL prog raw base (.fn 11 [] [.ptr (some ⟨H4.length,0,0⟩),.ptr (some ⟨G5.length,0,0⟩)]) [pv] K=some (.tuple [.int .i64 (sewV W (pkQ Q ps)),.bool true],K):=fun {base K pv ps} e hI hp hn=>run_sewn hI hp hn (e.get wJ) (e.get rJ) (hWr.ext e) hW (hQ.ext e) hQg
  have rJ':=rJ
  unfold rbB at rJ'
  have hsp:=@Nat.succ_ne_zero;repeat' (first|simp (disch:=first|exact dqd|fail) only [go_sem,↓reduceIte,hsp,p4,p6,p8,p9,p10,p43,p44,hlt,nSJ]|refine WP_drw ?_|refine cnd_intro (fun hsp=>?_) fun hsp=>?_)
  refine WP_count [(4,4),(12,23),(55,118)] 0 S.length (Nat.zero_le _) (fun _ i fr h'=>fr 55=.int .i64 (i:Int)∧fr 12=.int .i64 (sumV W Q (S.take i))∧fr 13=.int .i64 (allV W Q (S.take i))∧∃ zv,fr 14=zv∧Ext J h'∧Own encI 3 J.length h' zv (S.take i).flatten) ?_ ?_ ?_
  ·exact ⟨by (simp (disch:=first|exact dqd|fail) only [go_sem,↓reduceIte,Int.natCast_zero];first|done|rfl),by simp (disch:=first|exact dqd|fail) only [go_sem,↓reduceIte];rfl,by simp (disch:=first|exact dqd|fail) only [go_sem,↓reduceIte];rfl,.slice none 0 0,by simp (disch:=first|exact dqd|fail) only [go_sem,↓reduceIte],.refl,Own.nil⟩
  ·rintro i fr2 K hi0 hi hB ⟨d55,d12,d13,zv,d14,xK,oZ⟩
   have d10:=hB 10 rfl
   have d11:=hB 11 rfl
   have d53:=hB 53 rfl
   have d54:=hB 54 rfl
   try simp (disch:=first|exact dqd|fail) only [go_sem,↓reduceIte,p10] at d10 d11 d53 d54
   have hlt2:((i:Int)<(S.length:Int))=True:=eq_true (by omega)
   obtain ⟨oid,over,c,u,ew,go,hbo,hC,hcu,hcap,had,hld,hldP⟩:=(hSJ.ext xK).at hi
   obtain ⟨s,es⟩:∃ s,s=S.getD i []:=⟨_,rfl⟩
   rw [← es] at hcap
   have hsS:s ∈ S:=by rw [es];exact getD_mem' hi
   have hsq:=hSp s hsS
   have hsl:1≤s.length∧s.length≤6:=by
    have h1:=List.length_pos_iff.2 (hPt.2.1 s hsS)
    have h2:=(List.sublist_flatten_of_mem hsS).length_le
    omega
   have iU:Ints K u s:=(hcap.rows (by omega)).ints fun x hx=>by have:=hsq x hx;omega
   have ou:=hcap.one
   have nU:=lenI iU
   have tk:S.take (i+1)=S.take i++[s]:=by rw [List.take_add_one,getD_some (d:=[]) hi,← es];rfl
   have lfl:(S.take (i+1)).flatten.length≤6:=by
    have e:((S.take (i+1)++S.drop (i+1)).flatten).length=S.flatten.length:=by rw [List.take_append_drop]
    rw [List.flatten_append,List.length_append] at e
    omega
   have lf2:(S.take i).flatten.length+s.length≤6:=by
    rw [tk,List.flatten_append,List.length_append,List.flatten_singleton] at lfl
    exact lfl
   have gs:=pkQ_good hQg hsq
   have law:=allV_law hW hQg (S:=S.take (i+1)) (fun t ht=>hSp t (List.mem_of_mem_take ht)) lfl
   have law0:=allV_law hW hQg (S:=S.take i) (fun t ht=>hSp t (List.mem_of_mem_take ht)) (by omega)
   rw [tk,sumV_app,allV_app] at law
   have bo:=oneV_bd hW gs
   have ls:(pkQ Q s).length=s.length:=by simp [pkQ]
   have bs:=sewV_bd hW gs (by omega)
   have le1:=oneV_le hW gs (by omega)
   have hsp:=@Nat.succ_ne_zero;repeat' (first|simp (disch:=first|exact dqd|fail) only [go_sem,↓reduceIte,hsp,d10,d11,d53,d54,d55,d12,d13,d14,p4,p6,p8,p9,p10,p43,p44,hlt2,had,hld,nU]|refine WP_drw ?_|refine cnd_intro (fun hsp=>?_) fun hsp=>?_)
   refine WP_count [(4,4),(17,21),(61,85)] 0 s.length (Nat.zero_le _) (fun _ j fr h'=>fr 61=.int .i64 (j:Int)∧fr 17=.int .i64 (oneV W (pkQ Q (s.take j)))∧Ext K h') ?_ ?_ ?_
   ·exact ⟨by (simp (disch:=first|exact dqd|fail) only [go_sem,↓reduceIte,Int.natCast_zero];first|done|rfl),by simp (disch:=first|exact dqd|fail) only [go_sem,↓reduceIte];rfl,.refl⟩
   ·rintro j fr3 M hj0 hj hC3 ⟨c61,c17,xM⟩
    have c10:=hC3 10 rfl
    have c11:=hC3 11 rfl
    have c12:=hC3 12 rfl
    have c13:=hC3 13 rfl
    have c14:=hC3 14 rfl
    have c16:=hC3 16 rfl
    have c53:=hC3 53 rfl
    have c54:=hC3 54 rfl
    have c55:=hC3 55 rfl
    have c59:=hC3 59 rfl
    have c60:=hC3 60 rfl
    try simp (disch:=first|exact dqd|fail) only [go_sem,↓reduceIte,d10,d11,d12,d13,d14,d53,d54,d55] at c10 c11 c12 c13 c14 c16 c53 c54 c55 c59 c60
    have hlt3:((j:Int)<(s.length:Int))=True:=eq_true (by omega)
    have iM:=iU.ext xM
    have aM:=adrI (i:=(j:Int)) (by omega) iM (by omega)
    rw [Int.toNat_natCast] at aM
    have dM:=loadI iM hj
    obtain ⟨q,eq⟩:∃ q,q=s.getD j 0:=⟨_,rfl⟩
    have hq:0≤q∧q<(Q.length:Int):=by rw [eq];exact hsq _ (getD_mem hj)
    rw [← eq] at dM
    have t1:(q<0)=False:=eq_false (by omega)
    have t2:(q ≥ (Q.length:Int))=False:=eq_false (by omega)
    have rM:=(xK.trans xM).get rJ'
    have nM:=(hQ.ext (xK.trans xM)).len
    obtain ⟨M2,eM2⟩:∃ M2,M2=M++[rowB [q] 0]:=⟨_,rfl⟩
    have xM2:Ext M M2:=by rw [eM2];exact .app .refl
    have iQ:Ints M2 (.slice (some ⟨M.length,0,0⟩) 1 1) [q]:=by rw [eM2];exact slice_row rfl rfl ⟨by simp,fun z hz=>by rw [List.mem_singleton] at hz;omega⟩
    have cs:=fun base=>sew (base:=base) ((xK.trans xM).trans xM2) iQ (fun z hz=>by rw [List.mem_singleton] at hz;rw [hz];exact hq) (by simp)
    have g1:∀ z ∈ pkQ Q [q],GoodQ z:=pkQ_good hQg fun z hz=>by rw [List.mem_singleton] at hz;rw [hz];exact hq
    have b1:=sewV_bd hW g1 (by simp [pkQ])
    have ej:oneV W (pkQ Q (s.take (j+1)))=oneV W (pkQ Q (s.take j))+sewV W (pkQ Q [q]):=by
     rw [List.take_add_one,getD_some (d:=0) hj,← eq]
     have:pkQ Q (s.take j++(some q).toList)=pkQ Q (s.take j)++[Q.getD q.toNat ⟨1,[],[]⟩]:=by simp [pkQ]
     rw [this,oneV_app]
     rfl
    have bj:=oneV_bd hW (l:=pkQ Q (s.take j)) (pkQ_good hQg fun z hz=>hsq z (List.mem_of_mem_take hz))
    have lj:(pkQ Q (s.take j)).length≤6:=by unfold pkQ;rw [List.length_map,List.length_take];omega
    have hsp:=@Nat.succ_ne_zero;repeat' (first|simp (disch:=first|exact dqd|fail) only [go_sem,↓reduceIte,hsp,c10,c11,c12,c13,c14,c16,c53,c54,c55,c59,c60,c61,c17,d10,d11,d53,d54,d55,d12,d13,d14,p4,p6,p8,p9,p10,p43,p44,hlt3,aM,dM,t1,rM,nM,t2,bsrI,← eM2,cs]|refine WP_drw ?_|refine cnd_intro (fun hsp=>?_) fun hsp=>?_)
    exact ⟨agq,by omega,by rw [ej],xM.trans xM2⟩
   ·rintro fr3 M hC3 ⟨c61,c17,xM⟩
    have c10:=hC3 10 rfl
    have c11:=hC3 11 rfl
    have c12:=hC3 12 rfl
    have c13:=hC3 13 rfl
    have c14:=hC3 14 rfl
    have c16:=hC3 16 rfl
    have c53:=hC3 53 rfl
    have c54:=hC3 54 rfl
    have c55:=hC3 55 rfl
    have c59:=hC3 59 rfl
    have c60:=hC3 60 rfl
    try simp (disch:=first|exact dqd|fail) only [go_sem,↓reduceIte,d10,d11,d12,d13,d14,d53,d54,d55] at c10 c11 c12 c13 c14 c16 c53 c54 c55 c59 c60
    have hlt3:((s.length:Int)<(s.length:Int))=False:=eq_false (by omega)
    rw [List.take_length] at c17
    have iM:=iU.ext xM
    have nM:=lenI iM
    have cs:=fun base=>sew (base:=base) (xK.trans xM) iM hsq hsl
    have t1:(sewV W (pkQ Q s)<oneV W (pkQ Q s))=False:=eq_false (by omega)
    have oZM:=oZ.ext xM
    have ozv:=oZM.one
    obtain ⟨z',M2,ea,oZ2,lM2,eZ2,oneZ,_⟩:=oZM.appendRX (P:=prog) (base:=h.length) (t:=35) ((hcap.rows (by omega)).ext xM) Fc.el35 encI_sc (by have:=xhJ.len;omega) (by have:=(xK.trans xM).len;omega) (by omega) (by omega)
    have fin:Ext J M2∧Own encI 3 J.length M2 z' (S.take (i+1)).flatten:=by
     refine ⟨eZ2 J (Nat.le_refl _) (xK.trans xM),?_⟩
     rw [tk,List.flatten_append,List.flatten_singleton]
     exact oZ2
    have fin2:sumV W Q (S.take (i+1))=sumV W Q (S.take i)+oneV W (pkQ Q s)∧allV W Q (S.take (i+1))=allV W Q (S.take i)+sewV W (pkQ Q s):=by rw [tk,sumV_app,allV_app];exact ⟨rfl,rfl⟩
    by_cases c1:s.length=1
    ·have t2:((s.length:Int)=1)=True:=eq_true (by omega)
     have t3:sewV W (pkQ Q s)=oneV W (pkQ Q s):=by
      match s,c1 with
      | [q],_=>simp [pkQ,oneV]
     have t4:(sewV W (pkQ Q s)=oneV W (pkQ Q s))=True:=eq_true t3
     have hsp:=@Nat.succ_ne_zero;repeat' (first|simp (disch:=first|exact dqd|fail) only [go_sem,↓reduceIte,hsp,c10,c11,c12,c13,c14,c16,c53,c54,c55,c59,c60,c61,c17,d10,d11,d53,d54,d55,d12,d13,d14,p4,p6,p8,p9,p10,p43,p44,hlt3,cs,t1,nM,t2,t4,ea,neB,ne_eq,not_true,decide_false]|refine WP_drw ?_|refine cnd_intro (fun hsp=>?_) fun hsp=>?_)
     exact ⟨agq,by omega,by rw [fin2.1],by rw [fin2.2],z',rfl,fin.1,fin.2⟩
    ·have t2:((s.length:Int)=1)=False:=eq_false (by omega)
     have hsp:=@Nat.succ_ne_zero;repeat' (first|simp (disch:=first|exact dqd|fail) only [go_sem,↓reduceIte,hsp,c10,c11,c12,c13,c14,c16,c53,c54,c55,c59,c60,c61,c17,d10,d11,d53,d54,d55,d12,d13,d14,p4,p6,p8,p9,p10,p43,p44,hlt3,cs,t1,nM,t2,ea]|refine WP_drw ?_|refine cnd_intro (fun hsp=>?_) fun hsp=>?_)
     exact ⟨agq,by omega,by rw [fin2.1],by rw [fin2.2],z',rfl,fin.1,fin.2⟩
  ·rintro fr2 K hB ⟨d55,d12,d13,zv,d14,xK,oZ⟩
   have d10:=hB 10 rfl
   have d11:=hB 11 rfl
   have d53:=hB 53 rfl
   have d54:=hB 54 rfl
   try simp (disch:=first|exact dqd|fail) only [go_sem,↓reduceIte,p10] at d10 d11 d53 d54
   have hlt2:((S.length:Int)<(S.length:Int))=False:=eq_false (by omega)
   rw [List.take_length] at d12 d13 oZ
   have law:=allV_law hW hQg (S:=S) hSp (by omega)
   have hfp:∀ q ∈ S.flatten,0≤q∧q<(Q.length:Int):=fun q hq=>by
    obtain ⟨t,ht,hq⟩:=List.mem_flatten.1 hq
    exact hSp t ht q hq
   have iZ:Ints K zv S.flatten:=own_ints oZ ⟨by omega,fun x hx=>by have:=hfp x hx;omega⟩
   have nZ:=lenI iZ
   rw [hSl] at nZ
   have ozv:=oZ.one
   have rK:=xK.get rJ'
   have nK:=(hQ.ext xK).len
   rw [hQl] at nK
   have xhK:=xhJ.trans xK
   by_cases c0:n=0
   ·have t0:((n:Int)=0)=True:=eq_true (by omega)
    have hsp:=@Nat.succ_ne_zero;repeat' (first|simp (disch:=first|exact dqd|fail) only [go_sem,↓reduceIte,hsp,d10,d11,d53,d54,d55,d12,d13,d14,p4,p6,p8,p9,p10,p43,p44,hlt2,nZ,rK,nK,t0,run_awake08,neB,ne_eq,eq_self,not_true,decide_false]|refine WP_drw ?_|refine cnd_intro (fun hsp=>?_) fun hsp=>?_)
    exact fB rfl xhK
   ·have t0:((n:Int)=0)=False:=eq_false (by omega)
    have cs:=fun base=>sew (base:=base) xK iZ hfp (by omega)
    have t1:(sewV W (pkQ Q S.flatten) ≥ allV W Q S)=True:=eq_true law.2.1
    have t2:(allV W Q S ≥ sumV W Q S)=True:=eq_true law.1.2
    have hsp:=@Nat.succ_ne_zero;repeat' (first|simp (disch:=first|exact dqd|fail) only [go_sem,↓reduceIte,hsp,d10,d11,d53,d54,d55,d12,d13,d14,p4,p6,p8,p9,p10,p43,p44,hlt2,nZ,rK,nK,t0,cs,t1,t2,run_awake08,neB,ne_eq,eq_self,not_true,decide_false]|refine WP_drw ?_|refine cnd_intro (fun hsp=>?_) fun hsp=>?_)
    exact fB rfl xhK
end Go.AM
