/-
  Contracts: a ribbon that is made (Made).
-/
import Derived.Test.YtcemgempgbjbeaaGreatU20
import Derived.Test.YtcemgempgbjbeaaGreatU17
import Derived.Test.YtcemgempgbjbeaaGreatU22
set_option linter.unusedSimpArgs false
set_option linter.unusedVariables false
namespace Go.AM
open Go.Proofs.Tryz
theorem dqd {p:Prop} (h:p:=by first|exact Nat.ne_of_beq_eq_false rfl|assumption|(apply asOne;(first|exact One.int|exact One.bool|assumption|exact Ints.one (by assumption)|exact Rows.one (by assumption)|exact Own.one (by assumption)|exact One.lit ⟨rfl,rfl,rfl⟩))|(apply asSp;(repeat first|assumption|apply SpAt.set|(refine SpAt.new ?_ (by (first|rfl|(simp only [List.length_append,List.length_cons,List.length_nil,List.length_set];done)|(simp only [List.length_append,List.length_cons,List.length_nil,List.length_set];omega))))|apply SpAt.app|apply Bytes.app);done)|(apply asBytes;(repeat first|assumption|apply Bytes.app);done)|(apply asInts;(repeat first|assumption|exact ints_nil|apply Ints.app);done)|(apply asRows;(repeat first|assumption|exact Rows.nil|apply Rows.app);done)|(apply asScal;(first|apply allS1|apply allS2|apply allS3|apply allS4)<;>(first|exact One.int|exact One.bool|assumption|exact Ints.one (by assumption)|exact Rows.one (by assumption)|exact Own.one (by assumption)|exact One.lit ⟨rfl,rfl,rfl⟩))|exact litT rfl|exact litF rfl|omega|(simp only [List.length_append,List.length_cons,List.length_nil,List.length_set,List.length_reverse];first|done|omega)|fail):p:=h
attribute [-go_sem] put_ne put_same
attribute [local go_sem ↓] put_if
theorem bsWW1 {lit:Bool} {H:Heap} {w:Wnt}:bsA prog lit H 36 1 [(0,.agg [.int .i64 w.lg,.int .i64 w.pr,.int .i64 w.off,.int .i64 w.fl,.int .i64 w.jn])]=some (.slice (some ⟨H.length,0,0⟩) 1 1,H++[rowE encW 74 [w] 0]):=by
 simp [bsA,rowOf,Fc.el36,fillA,repCells,AVal.isN,AVal.cells,splice,rowE,flat,encW]
theorem snocWW {b base:Nat} {A:Heap} {w:AVal} {l:List Wnt} {r:Wnt} (hO:Own encW 74 b A w l) (hb:base≤b) (hbh:b≤A.length) (hl:l.length≤1000000) :
  ∃ w' H,appendA prog base (A++[rowE encW 74 [r] 0]) 36 w (.slice (some ⟨A.length,0,0⟩) 1 1)=some (w',H)∧Own encW 74 b H w' (l++[r])∧A.length≤H.length∧(∀ G,G.length≤b→Ext G A→Ext G H)∧One w'∧KeepO encW 74 A H:=by
 obtain ⟨B,eB⟩:∃ B,B=A++[rowE encW 74 [r] 0]:=⟨_,rfl⟩
 have xB:Ext A B:=by rw [eB];exact .app .refl
 have lB':B.length=A.length+1:=by rw [eB];simp
 have hx:Rows encW B (.slice (some ⟨A.length,0,0⟩) 1 1) [r]:=Rows.own (by rw [eB];exact get_eq rfl) rfl (by simp)
 rw [← eB]
 obtain ⟨w',H,a1,a2,a3,a4,a5,a6⟩:=(hO.ext xB).appendRX (P:=prog) (base:=base) (t:=36) hx Fc.el36 encW_sc hb (by omega) (by simp) (by simp;omega)
 have a6:KeepO encW 74 B H:=a6
 exact ⟨w',H,a1,a2,by omega,fun G h1 h2=>a4 G h1 (h2.trans xB),a5,fun i y hi hy=>a6 i y (xB.get hi) hy⟩
theorem stN53 {base:Nat} {l:List Oper} {s:St} {Q:AExit→St→Prop}:WP prog raw base (.region 11 l.toArray true) s Q=WPS prog raw base (.region 11 l.toArray true) s Q:=WP_stop
attribute [local go_sem ↓ 3000] stN53
set_option maxRecDepth 100000 in
set_option maxHeartbeats 4000000 in
theorem run_LMadeD {base id k0:Nat} {h:Heap} {v:AVal} {silk:List Int} {A B D:Int} (hb:base≤h.length) (hS:SpAt h id v silk k0) (hk:k0≤100000) (hA:1≤A∧A≤60) (hB:0≤B∧B≤12) (hD:0≤D∧D≤6) :
  Ret prog raw base (.fn 10 [] []) [.ptr (some ⟨id,0,0⟩),.int .i64 A,.int .i64 B,.int .i64 D] h (fun w H=>∃ L F W fv wv k',w=.agg [.int .i64 L,fv,wv]∧(k0≤k'∧k'≤k0+100)∧SpE h id v silk k' H∧Own encI 3 h.length H fv F∧Own encW 74 h.length H wv W∧RibOk ⟨L,F,W⟩∧L≤A∧(F.length:Int)≤B∧(W.length:Int)≤D):=by
 have hid:=lt_of_get hS.1
 have hS0:SpAt (h++[ribB 0 (.slice none 0 0) (.slice none 0 0)]) id v silk k0:=hS.app
 have b1:=up_bd (silk:=silk) (k:=k0) (n:=A-1) (by omega)
 have b2:=up_bd (silk:=silk) (k:=k0+1) (n:=B) (by omega)
 obtain ⟨G,eG⟩:∃ G,G=h++[ribB 0 (.slice none 0 0) (.slice none 0 0)]:=⟨_,rfl⟩
 rw [← eG] at hS0
 have lG:G.length=h.length+1:=by rw [eG];simp
 have xG:Ext h G:=by rw [eG];exact .app .refl
 have g0:G[h.length]?=some (ribB 0 (.slice none 0 0) (.slice none 0 0)):=by rw [eG];exact get_eq rfl
 have f1:=fun base=>run_from (base:=base) (lo:=1) (hi:=A) hS0 (by omega) (by omega) (by omega)
 obtain ⟨L,eL⟩:∃ L,L=1+up silk k0 (A-1):=⟨_,rfl⟩
 have hL:1≤L∧L≤A:=by omega
 rw [← eL] at f1
 obtain ⟨G1,eG1⟩:∃ G1,G1=G.set id (spB v silk (k0+1)):=⟨_,rfl⟩
 rw [← eG1] at f1
 have q1:SpE h id v silk (k0+1) G1:=by rw [eG1];exact ((SpE.refl hS).ext xG).step hid
 have l1:G1.length=h.length+1:=by rw [eG1,List.length_set,lG]
 have g1:G1[h.length]?=some (ribB 0 (.slice none 0 0) (.slice none 0 0)):=by rw [eG1,List.getElem?_set_ne (by omega)];exact g0
 obtain ⟨G2,eG2⟩:∃ G2,G2=G1++[ribB L (.slice none 0 0) (.slice none 0 0)]:=⟨_,rfl⟩
 have q2:SpE h id v silk (k0+1) G2:=by rw [eG2];exact q1.app
 have l2:G2.length=h.length+2:=by rw [eG2];simp [l1]
 have g2:G2[h.length]?=some (ribB 0 (.slice none 0 0) (.slice none 0 0)):=by rw [eG2];exact get_app g1
 have c2:G2[h.length+1]?=some (ribB L (.slice none 0 0) (.slice none 0 0)):=by rw [eG2];exact get_eq (by rw [l1])
 have f2:=fun base=>run_upto (base:=base) (n:=B) (q2.at hS) (by omega) (by omega)
 obtain ⟨m,em⟩:∃ m,m=up silk (k0+1) B:=⟨_,rfl⟩
 rw [← em] at b2 f2
 obtain ⟨G3,eG3⟩:∃ G3,G3=G2.set id (spB v silk (k0+1+1)):=⟨_,rfl⟩
 rw [← eG3] at f2
 have q3:SpE h id v silk (k0+1+1) G3:=by rw [eG3];exact q2.step hid
 have l3:G3.length=h.length+2:=by rw [eG3,List.length_set,l2]
 have g3:G3[h.length]?=some (ribB 0 (.slice none 0 0) (.slice none 0 0)):=by rw [eG3,List.getElem?_set_ne (by omega)];exact g2
 have c3:G3[h.length+1]?=some (ribB L (.slice none 0 0) (.slice none 0 0)):=by rw [eG3,List.getElem?_set_ne (by omega)];exact c2
 have hq:0≤L.tdiv (max 1 m)∧L.tdiv (max 1 m)≤60:=by
  rw [Int.tdiv_eq_ediv_of_nonneg (by omega)]
  have h1:0<max 1 m:=by omega
  refine ⟨Int.ediv_nonneg (by omega) (by omega),?_⟩
  exact Int.le_trans (Int.ediv_le_self _ (by omega)) (by omega)
 have hm0:max 1 m ≠ 0:=by omega
 have hm1:(max 1 m=0)=False:=eq_false hm0
 obtain ⟨X,eX⟩:∃ X,X=max 2 (L.tdiv (max 1 m)):=⟨_,rfl⟩
 have hX:2≤X∧X≤60:=by omega
 clear eL b1
 rw [show h.length+1=G1.length from l1.symm] at c2 c3
 unfold ribB at eG eG2
 have c3':=c3
 unfold ribB at c3'
 refine ret_raw func10 rfl (by kernel_rfl) ?_
 have hsp:=@Nat.succ_ne_zero;repeat' (first|simp (disch:=first|exact dqd|fail) only [go_sem,↓reduceIte,hsp,← eG,f1,← eG2,f2,c3']|refine WP_drw ?_|refine cnd_intro (fun hsp=>?_) fun hsp=>?_)
 obtain ⟨n,en⟩:=Int.eq_ofNat_of_zero_le (show 0≤L by omega)
 refine WP_count [(11,11),(21,45)] 0 n (Nat.zero_le _) (fun _ i fr K=>fr 21=.int .i64 (i:Int)∧∃ F fv k',(k0≤k'∧k'≤k0+2+i)∧SpE h id v silk k' K∧K[h.length]?=some (ribB 0 (.slice none 0 0) (.slice none 0 0))∧K[G1.length]?=some (ribB L fv (.slice none 0 0))∧Own encI 3 (h.length+2) K fv F∧(F.length:Int)≤m∧(∀ y ∈ F,0≤y∧y<(i:Int))∧F.Pairwise (·<·)∧h.length+2≤K.length) ?_ ?_ ?_
 ·exact ⟨by (simp (disch:=first|exact dqd|fail) only [go_sem,↓reduceIte,Int.natCast_zero];first|done|rfl),[],_,k0+1+1,by omega,q3,g3,c3,Own.nil,by simp;omega,by simp,by simp,by omega⟩
 ·rintro i fr K hi0 hi hAg ⟨r21,F,fv,k',hk',xK,gK,cK,oF,hFl,hFb,hFs,lK⟩
  have q0:=hAg 0 rfl
  have q3:=hAg 3 rfl
  have q8:=hAg 8 rfl
  have q9:=hAg 9 rfl
  have q10:=hAg 10 rfl
  have q20:=hAg 20 rfl
  try simp (disch:=first|exact dqd|fail) only [go_sem,↓reduceIte] at q0 q3 q8 q9 q10 q20
  have hlt:((i:Int)<L)=True:=eq_true (by omega)
  have of1:=oF.one
  have hSK:=xK.at hS
  have iF:Ints K fv F:=own_ints oF ⟨by omega,fun y hy=>by have:=hFb y hy;omega⟩
  have hn:=lenI iF
  have cK':=cK
  unfold ribB at cK'
  by_cases c1:(F.length:Int)<m
  ·have t1:((F.length:Int)<m)=True:=eq_true c1
   have e1:=fun base=>run_once (base:=base) (n:=X) hSK (by omega) (by omega)
   rw [eX] at e1
   obtain ⟨K1,eK1⟩:∃ K1,K1=K.set id (spB v silk (k'+1)):=⟨_,rfl⟩
   rw [← eK1] at e1
   have xK1:SpE h id v silk (k'+1) K1:=by rw [eK1];exact xK.step hid
   have gK1:K1[h.length]?=some (ribB 0 (.slice none 0 0) (.slice none 0 0)):=by rw [eK1,List.getElem?_set_ne (by omega)];exact gK
   have cK1:K1[G1.length]?=some (ribB L fv (.slice none 0 0)):=by rw [eK1,List.getElem?_set_ne (by omega)];exact cK
   have oF1:Own encI 3 (h.length+2) K1 fv F:=by rw [eK1];exact oF.set (by omega)
   have lK1:K1.length=K.length:=by rw [eK1,List.length_set]
   have cK1':=cK1
   unfold ribB at cK1'
   rcases Bool.eq_false_or_eq_true (decide (up silk k' (max 2 (L.tdiv (max 1 m))-1)=0)) with qb|qb
   ·rw [qb] at e1
    obtain ⟨w',K3,ea,oW,lW,eW2,oneW,kW⟩:=oF1.append1X (P:=prog) (y:=(i:Int)) (a:=.int .i64 (i:Int)) (base:=base) (t:=35) rfl rfl Fc.el35 encI_sc (by omega) (by omega) (by omega)
    have kW:KeepO encI 3 K1 K3:=kW
    have cK3:=kW.box cK1'
    have gK3:=kW.box gK1
    have xK3:SpE h id v silk (k'+1) K3:=eW2 _ (by rw [List.length_set];omega) xK1
    have hsp:=@Nat.succ_ne_zero;repeat' (first|simp (disch:=first|exact dqd|fail) only [go_sem,↓reduceIte,hsp,r21,q0,q3,q8,q9,q10,q20,hlt,cK',hn,t1,hm1,hm0,e1,cK1',ea,cK3]|refine WP_drw ?_|refine cnd_intro (fun hsp=>?_) fun hsp=>?_)
    refine ⟨agq,by omega,F++[(i:Int)],w',k'+1,by omega,Ext.set xK3 (by rw [List.length_set];omega),gK3,rfl,Own.setBox oW cK3,by simp;omega,fun y hy=>?_,?_,by omega⟩
    ·rcases List.mem_append.1 hy with hy|hy
     ·have:=hFb y hy;omega
     ·rw [List.mem_singleton] at hy;omega
    ·refine List.pairwise_append.2 ⟨hFs,by simp,fun a ha b hb=>?_⟩
     have:=hFb a ha
     rw [List.mem_singleton] at hb;omega
   ·rw [qb] at e1
    have hsp:=@Nat.succ_ne_zero;repeat' (first|simp (disch:=first|exact dqd|fail) only [go_sem,↓reduceIte,hsp,r21,q0,q3,q8,q9,q10,q20,hlt,cK',hn,t1,hm1,hm0,e1]|refine WP_drw ?_|refine cnd_intro (fun hsp=>?_) fun hsp=>?_)
    exact ⟨agq,by omega,F,fv,k'+1,by omega,xK1,gK1,cK1,oF1,hFl,fun y hy=>by have:=hFb y hy;omega,hFs,by omega⟩
  ·have t1:((F.length:Int)<m)=False:=eq_false c1
   have hsp:=@Nat.succ_ne_zero;repeat' (first|simp (disch:=first|exact dqd|fail) only [go_sem,↓reduceIte,hsp,r21,q0,q3,q8,q9,q10,q20,hlt,cK',hn,t1]|refine WP_drw ?_|refine cnd_intro (fun hsp=>?_) fun hsp=>?_)
   exact ⟨agq,by omega,F,fv,k',by omega,xK,gK,rfl,oF,hFl,fun y hy=>by have:=hFb y hy;omega,hFs,lK⟩
 ·rintro fr K hAg ⟨r21,F,fv,k',hk',xK,gK,cK,oF,hFl,hFb,hFs,lK⟩
  have q0:=hAg 0 rfl
  have q3:=hAg 3 rfl
  have q8:=hAg 8 rfl
  have q9:=hAg 9 rfl
  have q10:=hAg 10 rfl
  have q20:=hAg 20 rfl
  try simp (disch:=first|exact dqd|fail) only [go_sem,↓reduceIte] at q0 q3 q8 q9 q10 q20
  have hlt:((n:Int)<L)=False:=eq_false (by omega)
  have of1:=oF.one
  have hSK:=xK.at hS
  have ubz:=up_bd (silk:=silk) (k:=k') (n:=D) (by omega)
  have ez:=fun base=>run_upto (base:=base) (n:=D) hSK (by omega) (by omega)
  obtain ⟨z,ezz⟩:=Int.eq_ofNat_of_zero_le ubz.1
  rw [ezz] at ez ubz
  obtain ⟨K0,eK0⟩:∃ K0,K0=K.set id (spB v silk (k'+1)):=⟨_,rfl⟩
  rw [← eK0] at ez
  have xK0:SpE h id v silk (k'+1) K0:=by rw [eK0];exact xK.step hid
  have gK0:K0[h.length]?=some (ribB 0 (.slice none 0 0) (.slice none 0 0)):=by rw [eK0,List.getElem?_set_ne (by omega)];exact gK
  have cK0:K0[G1.length]?=some (ribB L fv (.slice none 0 0)):=by rw [eK0,List.getElem?_set_ne (by omega)];exact cK
  have oF0:Own encI 3 (h.length+2) K0 fv F:=by rw [eK0];exact oF.set (by omega)
  have lK0:K0.length=K.length:=by rw [eK0,List.length_set]
  have hsp:=@Nat.succ_ne_zero;repeat' (first|simp (disch:=first|exact dqd|fail) only [go_sem,↓reduceIte,hsp,r21,q0,q3,q8,q9,q10,q20,hlt,ez]|refine WP_drw ?_|refine cnd_intro (fun hsp=>?_) fun hsp=>?_)
  refine WP_count [(49,67)] 0 z (Nat.zero_le _) (fun _ j fr K'=>fr 49=.int .i64 (j:Int)∧∃ W wv k2,(k0≤k2∧k2≤k'+1+5 * j)∧SpE h id v silk k2 K'∧K'[h.length]?=some (ribB 0 (.slice none 0 0) (.slice none 0 0))∧K'[G1.length]?=some (ribB L fv wv)∧Own encI 3 (h.length+2) K' fv F∧Own encW 74 (h.length+2) K' wv W∧W.length≤j∧(∀ w ∈ W,WntOk w)∧h.length+2≤K'.length) ?_ ?_ ?_
  ·exact ⟨by (simp (disch:=first|exact dqd|fail) only [go_sem,↓reduceIte,Int.natCast_zero];first|done|rfl),[],.slice none 0 0,k'+1,by omega,xK0,gK0,cK0,oF0,Own.nil,by simp,by simp,by omega⟩
  ·rintro j fr2 K' hj0 hj hA2 ⟨r49,W,wv,k2,hk2,xK2,gK2,cK2,oF2,oW2,hWl,hWo,lK2⟩
   have d0:=hA2 0 rfl
   have d8:=hA2 8 rfl
   have d9:=hA2 9 rfl
   have d48:=hA2 48 rfl
   try simp (disch:=first|exact dqd|fail) only [go_sem,↓reduceIte,q0,q8,q9] at d0 d8 d9 d48
   have hlt2:((j:Int)<(z:Int))=True:=eq_true (by omega)
   have owv:=oW2.one
   have ub1:=up_bd (silk:=silk) (k:=k2) (n:=(9-1)) (by omega)
   have e1:=fun base=>run_from (base:=base) (lo:=1) (hi:=9) (xK2.at hS) (by omega) (by omega) (by omega)
   obtain ⟨w1,ew1⟩:∃ w1,w1=1+up silk k2 (9-1):=⟨_,rfl⟩
   rw [← ew1] at e1
   obtain ⟨M1,eM1⟩:∃ M1,M1=K'.set id (spB v silk (k2+1)):=⟨_,rfl⟩
   rw [← eM1] at e1
   have xM1:SpE h id v silk (k2+1) M1:=by rw [eM1];exact xK2.step hid
   have gM1:M1[h.length]?=some (ribB 0 (.slice none 0 0) (.slice none 0 0)):=by rw [eM1,List.getElem?_set_ne (by omega)];exact gK2
   have cM1:M1[G1.length]?=some (ribB L fv wv):=by rw [eM1,List.getElem?_set_ne (by omega)];exact cK2
   have fM1:Own encI 3 (h.length+2) M1 fv F:=by rw [eM1];exact oF2.set (by omega)
   have wM1:Own encW 74 (h.length+2) M1 wv W:=by rw [eM1];exact oW2.set (by omega)
   have lM1:M1.length=K'.length:=by rw [eM1,List.length_set]
   have ub2:=up_bd (silk:=silk) (k:=(k2+1)) (n:=40) (by omega)
   have e2:=fun base=>run_upto (base:=base) (n:=40) (xM1.at hS) (by omega) (by omega)
   obtain ⟨w2,ew2⟩:∃ w2,w2=up silk ((k2+1)) 40:=⟨_,rfl⟩
   rw [← ew2] at e2
   obtain ⟨M2,eM2⟩:∃ M2,M2=M1.set id (spB v silk ((k2+1)+1)):=⟨_,rfl⟩
   rw [← eM2] at e2
   have xM2:SpE h id v silk ((k2+1)+1) M2:=by rw [eM2];exact xM1.step hid
   have gM2:M2[h.length]?=some (ribB 0 (.slice none 0 0) (.slice none 0 0)):=by rw [eM2,List.getElem?_set_ne (by omega)];exact gM1
   have cM2:M2[G1.length]?=some (ribB L fv wv):=by rw [eM2,List.getElem?_set_ne (by omega)];exact cM1
   have fM2:Own encI 3 (h.length+2) M2 fv F:=by rw [eM2];exact fM1.set (by omega)
   have wM2:Own encW 74 (h.length+2) M2 wv W:=by rw [eM2];exact wM1.set (by omega)
   have lM2:M2.length=M1.length:=by rw [eM2,List.length_set]
   have ub3:=up_bd (silk:=silk) (k:=((k2+1)+1)) (n:=8) (by omega)
   have e3:=fun base=>run_upto (base:=base) (n:=8) (xM2.at hS) (by omega) (by omega)
   obtain ⟨w3,ew3⟩:∃ w3,w3=up silk (((k2+1)+1)) 8:=⟨_,rfl⟩
   rw [← ew3] at e3
   obtain ⟨M3,eM3⟩:∃ M3,M3=M2.set id (spB v silk (((k2+1)+1)+1)):=⟨_,rfl⟩
   rw [← eM3] at e3
   have xM3:SpE h id v silk (((k2+1)+1)+1) M3:=by rw [eM3];exact xM2.step hid
   have gM3:M3[h.length]?=some (ribB 0 (.slice none 0 0) (.slice none 0 0)):=by rw [eM3,List.getElem?_set_ne (by omega)];exact gM2
   have cM3:M3[G1.length]?=some (ribB L fv wv):=by rw [eM3,List.getElem?_set_ne (by omega)];exact cM2
   have fM3:Own encI 3 (h.length+2) M3 fv F:=by rw [eM3];exact fM2.set (by omega)
   have wM3:Own encW 74 (h.length+2) M3 wv W:=by rw [eM3];exact wM2.set (by omega)
   have lM3:M3.length=M2.length:=by rw [eM3,List.length_set]
   have ub4:=up_bd (silk:=silk) (k:=(((k2+1)+1)+1)) (n:=2) (by omega)
   have e4:=fun base=>run_upto (base:=base) (n:=2) (xM3.at hS) (by omega) (by omega)
   obtain ⟨w4,ew4⟩:∃ w4,w4=up silk ((((k2+1)+1)+1)) 2:=⟨_,rfl⟩
   rw [← ew4] at e4
   obtain ⟨M4,eM4⟩:∃ M4,M4=M3.set id (spB v silk ((((k2+1)+1)+1)+1)):=⟨_,rfl⟩
   rw [← eM4] at e4
   have xM4:SpE h id v silk ((((k2+1)+1)+1)+1) M4:=by rw [eM4];exact xM3.step hid
   have gM4:M4[h.length]?=some (ribB 0 (.slice none 0 0) (.slice none 0 0)):=by rw [eM4,List.getElem?_set_ne (by omega)];exact gM3
   have cM4:M4[G1.length]?=some (ribB L fv wv):=by rw [eM4,List.getElem?_set_ne (by omega)];exact cM3
   have fM4:Own encI 3 (h.length+2) M4 fv F:=by rw [eM4];exact fM3.set (by omega)
   have wM4:Own encW 74 (h.length+2) M4 wv W:=by rw [eM4];exact wM3.set (by omega)
   have lM4:M4.length=M3.length:=by rw [eM4,List.length_set]
   have ub5:=up_bd (silk:=silk) (k:=((((k2+1)+1)+1)+1)) (n:=2) (by omega)
   have e5:=fun base=>run_upto (base:=base) (n:=2) (xM4.at hS) (by omega) (by omega)
   obtain ⟨w5,ew5⟩:∃ w5,w5=up silk (((((k2+1)+1)+1)+1)) 2:=⟨_,rfl⟩
   rw [← ew5] at e5
   obtain ⟨M5,eM5⟩:∃ M5,M5=M4.set id (spB v silk (((((k2+1)+1)+1)+1)+1)):=⟨_,rfl⟩
   rw [← eM5] at e5
   have xM5:SpE h id v silk (((((k2+1)+1)+1)+1)+1) M5:=by rw [eM5];exact xM4.step hid
   have gM5:M5[h.length]?=some (ribB 0 (.slice none 0 0) (.slice none 0 0)):=by rw [eM5,List.getElem?_set_ne (by omega)];exact gM4
   have cM5:M5[G1.length]?=some (ribB L fv wv):=by rw [eM5,List.getElem?_set_ne (by omega)];exact cM4
   have fM5:Own encI 3 (h.length+2) M5 fv F:=by rw [eM5];exact fM4.set (by omega)
   have wM5:Own encW 74 (h.length+2) M5 wv W:=by rw [eM5];exact wM4.set (by omega)
   have lM5:M5.length=M4.length:=by rw [eM5,List.length_set]
   obtain ⟨wr,ewr⟩:∃ wr:Wnt,wr=⟨w1,w2,w3,w4,w5⟩:=⟨_,rfl⟩
   have hwr:WntOk wr:=by rw [ewr];exact ⟨by simp only;omega,by simp only;omega,by simp only;omega,by simp only;omega,by simp only;omega⟩
   have bsw:∀ {lit:Bool},bsA prog lit M5 36 1 [(0,.agg [.int .i64 w1,.int .i64 w2,.int .i64 w3,.int .i64 w4,.int .i64 w5])]=some (.slice (some ⟨M5.length,0,0⟩) 1 1,M5++[rowE encW 74 [wr] 0]):=fun {lit}=>by
    rw [ewr];exact bsWW1 (w:=⟨w1,w2,w3,w4,w5⟩)
   obtain ⟨w',M6,ea,oW6,lW6,eW6,oneW,kW⟩:=snocWW (base:=base) (r:=wr) wM5 (by omega) (by omega) (by omega)
   have c6:=kW.box cM5
   have g6:=kW.box gM5
   have f6:=kW.own fM5 (by decide)
   have x6:SpE h id v silk ((((((k2+1)+1)+1)+1)+1)) M6:=eW6 _ (by rw [List.length_set];omega) xM5
   have cK2':=cK2
   have c6':=c6
   unfold ribB at cK2' c6'
   have hlow:refsLow K'.length wv:=oW2.low_refs
   have hsp:=@Nat.succ_ne_zero;repeat' (first|simp (disch:=first|exact dqd|fail) only [go_sem,↓reduceIte,hsp,r49,d0,d8,d9,d48,q0,q3,q8,q9,q10,q20,hlt2]|refine WP_drw ?_|refine cnd_intro (fun hsp=>?_) fun hsp=>?_)
   refine WPS_go ?_
   refine WP_wild [⟨1,36,51,⟨G1.length,0,2⟩,wv,14⟩] (by kernel_rfl) (by kernel_rfl) (by kernel_rfl) ⟨hlow,trivial⟩ fun KK hK=>?_
   iterate 17
    rw [TRS_cons]
    refine ⟨by first|(simp (disch:=first|exact dqd|fail) only [go_sem,↓reduceIte,r49,d0,d8,d9,d48,q0,q3,q8,q9,q10,q20,cK2',e1,cM1,e2,cM2,e3,cM3,e4,cM4,e5,cM5,bsw,ea,c6',ldsQ_cons,ldsQ_nil,grdQ_cons,grdQ_nil,if_true,Nat.reduceLeDiff];done)|exact trivial,?_⟩
    simp (disch:=first|exact dqd|fail) only [go_sem,↓reduceIte,r49,d0,d8,d9,d48,q0,q3,q8,q9,q10,q20,cK2',e1,cM1,e2,cM2,e3,cM3,e4,cM4,e5,cM5,bsw,ea,c6']
   rw [TRS_nil]
   refine ⟨by first|(simp (disch:=first|exact dqd|fail) only [go_sem,↓reduceIte,r49,d0,d8,d9,d48,q0,q3,q8,q9,q10,q20,cK2',e1,cM1,e2,cM2,e3,cM3,e4,cM4,e5,cM5,bsw,ea,c6',ldsQ_cons,ldsQ_nil,grdQ_cons,grdQ_nil,if_true,Nat.reduceLeDiff];done)|exact trivial,?_⟩
   subst hK
   have hsp:=@Nat.succ_ne_zero;repeat' (first|simp (disch:=first|exact dqd|fail) only [go_sem,↓reduceIte,hsp,r49,d0,d8,d9,d48,q0,q3,q8,q9,q10,q20]|refine WP_drw ?_|refine cnd_intro (fun hsp=>?_) fun hsp=>?_)
   refine ⟨agq,by omega,W++[wr],w',_,?_,Ext.set x6 (by rw [List.length_set];omega),g6,rfl,Own.setBox f6 c6,Own.setBox oW6 c6,by simp;omega,fun w hw=>?_,by omega⟩
   ·omega
   ·rcases List.mem_append.1 hw with hw|hw
    ·exact hWo w hw
    ·rw [List.mem_singleton] at hw;rw [hw];exact hwr
  ·rintro fr2 K' hA2 ⟨r49,W,wv,k2,hk2,xK2,gK2,cK2,oF2,oW2,hWl,hWo,lK2⟩
   have d0:=hA2 0 rfl
   have d8:=hA2 8 rfl
   have d9:=hA2 9 rfl
   have d48:=hA2 48 rfl
   try simp (disch:=first|exact dqd|fail) only [go_sem,↓reduceIte,q0,q8,q9] at d0 d8 d9 d48
   have hlt2:((z:Int)<(z:Int))=False:=eq_false (by omega)
   have owv:=oW2.one
   have gK2':=gK2
   have cK2':=cK2
   unfold ribB at gK2' cK2'
   have hsp:=@Nat.succ_ne_zero;repeat' (first|simp (disch:=first|exact dqd|fail) only [go_sem,↓reduceIte,hsp,r49,d0,d8,d9,d48,q0,q3,q8,q9,q10,q20,hlt2,cK2',gK2']|refine WP_drw ?_|refine cnd_intro (fun hsp=>?_) fun hsp=>?_)
   refine ⟨L,F,W,fv,wv,k2,rfl,by omega,Ext.set xK2 (by rw [List.length_set];omega),(oF2.setBox gK2').low (by omega),(oW2.setBox gK2').low (by omega),⟨by simp only;omega,by simp only;omega,by simp only;omega,hWo,fun y hy=>by have:=hFb y hy;simp only;omega,hFs⟩,hL.2,by omega,by omega⟩
end Go.AM
namespace Go.AM
structure SpK (t:List Int) (n:Nat) (o:List (Int × Int)):Prop where
 b:∀ y ∈ o,0≤y.1∧y.1≤y.2∧y.2<(n:Int)
 s:o.Pairwise fun a b=>a.2+1<b.1
 m:∀ u:Nat,(∃ y ∈ o,y.1≤(u:Int)∧(u:Int)≤y.2) ↔ u<n∧(u:Int) ∉ t
def smS:List (Int × Int)→Int
 | []=>0
 | y :: l=>(y.2-y.1+1)+smS l
theorem smS_app:∀ {l m:List (Int × Int)},smS (l++m)=smS l+smS m
 | [],m=>by simp [smS]
 | y :: l,m=>by rw [List.cons_append,smS,smS,smS_app];omega
def cnN (t:List Int):Nat→Int
 | 0=>0
 | n+1=>cnN t n+if (n:Int) ∈ t then 0 else 1
theorem spnS_last {t:List Int} {o:List (Int × Int)} {l:Int × Int} {u:Nat}:spnS t (o++[l]) u=if (u:Int) ∈ t then o++[l] else if l.2=(u:Int)-1 then o++[(l.1,(u:Int))] else o++[l]++[((u:Int),(u:Int))]:=by
 have h1:(o++[l]).getD ((o++[l]).length-1) (0,0)=l:=by simp [List.getD_eq_getElem?_getD]
 have h2:0<(o++[l]).length:=by simp
 unfold spnS
 rw [h1]
 split
 ·rfl
 ·by_cases c:l.2=(u:Int)-1
  ·rw [if_pos ⟨h2,c⟩,if_pos c,List.length_append,List.length_singleton,Nat.add_sub_cancel,List.set_append_right _ _ (Nat.le_refl _),Nat.sub_self];rfl
  ·rw [if_neg (fun q=>c q.2),if_neg c]
theorem SpK.step {t:List Int} {n:Nat} {o:List (Int × Int)} (h:SpK t n o) (hs:smS o=cnN t n):SpK t (n+1) (spnS t o n)∧smS (spnS t o n)=cnN t (n+1):=by
 rw [cnN]
 by_cases c:(n:Int) ∈ t
 ·have e:spnS t o n=o:=by unfold spnS;rw [if_pos c]
  rw [e,if_pos c]
  refine ⟨⟨fun y hy=>by have:=h.b y hy;omega,h.s,fun u=>?_⟩,by omega⟩
  rw [h.m u]
  constructor
  ·rintro ⟨h1,h2⟩;exact ⟨by omega,h2⟩
  ·rintro ⟨h1,h2⟩
   refine ⟨?_,h2⟩
   have:u ≠ n:=fun q=>h2 (q ▸ c)
   omega
 ·rw [if_neg c]
  rcases List.eq_nil_or_concat o with rfl|⟨o',l,rfl⟩
  ·have e:spnS t [] n=[((n:Int),(n:Int))]:=by unfold spnS;rw [if_neg c,if_neg (by simp)];rfl
   rw [e]
   refine ⟨⟨fun y hy=>?_,by simp,fun u=>?_⟩,?_⟩
   ·rw [List.mem_singleton] at hy;rw [hy];simp only;omega
   ·have:=h.m u
    simp only [List.not_mem_nil,false_and,exists_false,false_iff,not_and,Classical.not_not] at this
    simp only [List.mem_singleton,exists_eq_left]
    constructor
    ·rintro ⟨h1,h2⟩
     have:u=n:=by omega
     exact ⟨by omega,by rw [this];exact c⟩
    ·rintro ⟨h1,h2⟩
     have:¬ u<n:=fun q=>h2 (this q)
     omega
   ·simp only [smS] at hs ⊢;omega
  ·rw [List.concat_eq_append] at h hs ⊢
   rw [spnS_last,if_neg c]
   have hl:=h.b l (by simp)
   obtain ⟨p1,p2,p3⟩:=List.pairwise_append.1 h.s
   rw [smS_app] at hs
   simp only [smS] at hs
   by_cases d:l.2=(n:Int)-1
   ·rw [if_pos d]
    refine ⟨⟨fun y hy=>?_,?_,fun u=>?_⟩,?_⟩
    ·rcases List.mem_append.1 hy with q|q
     ·have:=h.b y (List.mem_append_left _ q);omega
     ·rw [List.mem_singleton] at q;rw [q];simp only;omega
    ·refine List.pairwise_append.2 ⟨p1,by simp,fun a ha b hb=>?_⟩
     rw [List.mem_singleton] at hb
     rw [hb]
     exact p3 a ha l (by simp)
    ·have:=h.m u
     simp only [List.mem_append,List.mem_singleton,or_and_right,exists_or,exists_eq_left] at this ⊢
     constructor
     ·rintro (q|⟨q1,q2⟩)
      ·have:=this.1 (.inl q);exact ⟨by omega,this.2⟩
      ·by_cases e:u=n
       ·exact ⟨by omega,by rw [e];exact c⟩
       ·have:=this.1 (.inr ⟨q1,by omega⟩);exact ⟨by omega,this.2⟩
     ·rintro ⟨q1,q2⟩
      by_cases e:u=n
      ·exact .inr (by omega)
      ·rcases this.2 ⟨by omega,q2⟩ with q|q
       ·exact .inl q
       ·exact .inr (by omega)
    ·rw [smS_app];simp only [smS];omega
   ·rw [if_neg d]
    refine ⟨⟨fun y hy=>?_,?_,fun u=>?_⟩,?_⟩
    ·rcases List.mem_append.1 hy with q|q
     ·have:=h.b y q;omega
     ·rw [List.mem_singleton] at q;rw [q];simp only;omega
    ·refine List.pairwise_append.2 ⟨h.s,by simp,fun a ha b hb=>?_⟩
     rw [List.mem_singleton] at hb
     rw [hb]
     simp only
     rcases List.mem_append.1 ha with q|q
     ·have:=p3 a q l (by simp);omega
     ·rw [List.mem_singleton] at q;rw [q];omega
    ·have:=h.m u
     rw [show (∃ y ∈ o'++[l]++[((n:Int),(n:Int))],y.1≤(u:Int)∧(u:Int)≤y.2) ↔ (∃ y ∈ o'++[l],y.1≤(u:Int)∧(u:Int)≤y.2) ∨ u=n by
      rw [show (u=n) ↔ (n:Int)≤(u:Int)∧(u:Int)≤(n:Int) by omega]
      simp only [List.mem_append,List.mem_singleton,or_and_right,exists_or,exists_eq_left],this]
     constructor
     ·rintro (⟨q1,q2⟩|q)
      ·exact ⟨by omega,q2⟩
      ·exact ⟨by omega,by rw [q];exact c⟩
     ·rintro ⟨q1,q2⟩
      by_cases e:u=n
      ·exact .inr e
      ·exact .inl ⟨by omega,q2⟩
    ·rw [smS_app,smS_app];simp only [smS];omega
theorem spnN_k {t:List Int}:∀ n,SpK t n (spnN t n)∧smS (spnN t n)=cnN t n
 | 0=>⟨⟨fun y hy=>(by cases hy),by simp [spnN],fun u=>by simp [spnN]⟩,rfl⟩
 | n+1=>(spnN_k n).1.step (spnN_k n).2
theorem cnN_far {x:Int} {t:List Int}:∀ {n:Nat},(n:Int)≤x→cnN (x :: t) n=cnN t n
 | 0,_=>rfl
 | n+1,h=>by
  rw [cnN,cnN,cnN_far (by omega)]
  have:(n:Int) ∈ x :: t ↔ (n:Int) ∈ t:=by rw [List.mem_cons];exact ⟨fun q=>q.elim (fun z=>by omega) id,.inr⟩
  by_cases c:(n:Int) ∈ t
  ·rw [if_pos c,if_pos (this.2 c)]
  ·rw [if_neg c,if_neg (fun q=>c (this.1 q))]
theorem cnN_cons {x:Int} {t:List Int} (hx:x ∉ t) (h0:0≤x):∀ {n:Nat},x<(n:Int)→cnN (x :: t) n=cnN t n-1
 | 0,h=>by omega
 | n+1,h=>by
  rw [cnN,cnN]
  by_cases e:x=(n:Int)
  ·rw [cnN_far (by omega),if_pos (by rw [e];simp),if_neg (by rw [← e];exact hx)];omega
  ·rw [cnN_cons hx h0 (by omega)]
   have:(n:Int) ∈ x :: t ↔ (n:Int) ∈ t:=by rw [List.mem_cons];exact ⟨fun q=>q.elim (fun z=>by omega) id,.inr⟩
   by_cases c:(n:Int) ∈ t
   ·rw [if_pos c,if_pos (this.2 c)];omega
   ·rw [if_neg c,if_neg (fun q=>c (this.1 q))];omega
theorem cnN_nil:∀ {n:Nat},cnN [] n=(n:Int)
 | 0=>rfl
 | n+1=>by rw [cnN,cnN_nil];simp
theorem cnN_len {n:Nat}:∀ {t:List Int},t.Nodup→(∀ y ∈ t,0≤y∧y<(n:Int))→cnN t n=(n:Int)-t.length
 | [],_,_=>by rw [cnN_nil];simp
 | x :: t,hd,hb=>by
  have h1:=List.nodup_cons.1 hd
  have h2:=hb x (by simp)
  rw [cnN_cons h1.1 h2.1 h2.2,cnN_len h1.2 (fun y hy=>hb y (List.mem_cons_of_mem _ hy)),List.length_cons];omega
structure Tk (R:Rib) (c:Ct) (e:Int × Int):Prop where
 p:(takU R c).Pairwise (·<·)
 b:∀ y ∈ takU R c,c.f≤y∧y<e.1
 n:∃ w,R.W[c.w.toNat]?=some w∧((takU R c).length:Int)=w.lg
 m:∀ u:Nat,c.f≤(u:Int)→(u:Int)<e.1→((u:Int) ∈ takU R c ↔ (c.j && badF R u)=false)
 f:c.f<e.1
 l:e.1≤R.L
theorem unL_all {bad:Nat→Bool} {j:Bool} {lg:Int} {n x:Nat}:∃ u':Nat,(∀ y ∈ (unL bad j lg n x [] 0).1,y<(u':Int))∧∀ y:Nat,x≤y→y<u'→((y:Int) ∈ (unL bad j lg n x [] 0).1 ↔ (j && bad y)=false):=by
 obtain ⟨u',_,_,h,_⟩:=unL_inv (bad:=bad) (j:=j) (lg:=lg) (I:=fun u o _=>(∀ y ∈ o,y<(u:Int))∧∀ y:Nat,x≤y→y<u→((y:Int) ∈ o ↔ (j && bad y)=false)) (fun u o f hI _=>by
  obtain ⟨h1,h2⟩:=hI
  unfold unS
  by_cases c:(j && bad u)=true
  ·rw [if_pos c]
   refine ⟨fun y hy=>by have:=h1 y hy;omega,fun y g1 g2=>?_⟩
   by_cases e:y=u
   ·subst e
    rw [c]
    exact ⟨fun q=>by have:=h1 _ q;omega,fun q=>by simp at q⟩
   ·exact h2 y g1 (by omega)
  ·rw [if_neg c]
   refine ⟨fun y hy=>?_,fun y g1 g2=>?_⟩
   ·rcases List.mem_append.1 hy with q|q
    ·have:=h1 y q;omega
    ·rw [List.mem_singleton] at q;omega
   ·show (y:Int) ∈ o++[(u:Int)] ↔ _
    rw [List.mem_append,List.mem_singleton]
    by_cases e:y=u
    ·subst e
     rw [Bool.not_eq_true] at c
     exact ⟨fun _=>c,fun _=>.inr rfl⟩
    ·rw [← h2 y g1 (by omega)]
     exact ⟨fun q=>q.elim id fun z=>by omega,.inl⟩) n x [] 0 ⟨by simp,fun y h1 h2=>by omega⟩
 exact ⟨u',h⟩
theorem tk_of {R:Rib} (hR:RibOk R) {c:Ct} (hw:0≤c.w∧c.w≤(R.W.length:Int)-1) (hf:0≤c.f∧c.f≤R.L-1) {e:Int × Int} (he:takC R c=some e):Tk R c e:=by
 have hwk:R.W[c.w.toNat]?=some (R.W[c.w.toNat]'(by omega)):=List.getElem?_eq_getElem (by omega)
 generalize R.W[c.w.toNat]'(by omega)=w at hwk
 have hx:c.f.toNat<R.L.toNat:=by omega
 have hwo:=hR.W w (List.mem_of_getElem? hwk)
 have hlg:=hwo.lg
 unfold takC at he
 rw [hwk] at he
 simp only at he
 have hb:=takL_b (e:=e.1) (p:=e.2) hR hwo hx he
 unfold takL at he
 split at he
 ·rename_i ct
  have hok:=ct.1
  unfold okT at hok
  simp only [Bool.and_eq_true,Bool.not_eq_true',decide_eq_true_eq] at hok
  have eu:takU R c=(uniP R w c.f.toNat c.j).1:=by
   unfold takU uniO
   rw [hwk]
   simp only
   rw [if_neg (by rw [hok.1];simp)]
  obtain ⟨u,h1,h2,hk,_⟩:=uniP_k (w:=w) (j:=c.j) hR hx
  have heq:=Option.some.inj he
  have e1:e.1=(uniP R w c.f.toNat c.j).1.getD ((uniP R w c.f.toNat c.j).1.length-1) 0+1:=by rw [← heq]
  obtain ⟨u',a1,a2⟩:=unL_all (bad:=badF R) (j:=c.j) (lg:=w.lg) (n:=R.L.toNat-c.f.toNat) (x:=c.f.toNat)
  have hlast:∀ y ∈ (uniP R w c.f.toNat c.j).1,y<e.1:=fun y hy=>by
   obtain ⟨i,hi⟩:=List.getElem?_of_mem hy
   have hil:=(List.getElem?_eq_some_iff.1 hi).1
   have hp:=List.pairwise_iff_getElem.1 hk.p
   rw [e1]
   by_cases q:i=(uniP R w c.f.toNat c.j).1.length-1
   ·rw [← q,List.getD_eq_getElem?_getD,hi];simp only [Option.getD_some];omega
   ·have:=hp i ((uniP R w c.f.toNat c.j).1.length-1) hil (by omega) (by omega)
    rw [(List.getElem?_eq_some_iff.1 hi).2] at this
    rw [List.getD_eq_getElem?_getD,List.getElem?_eq_getElem (by omega)]
    simp only [Option.getD_some]
    omega
  have hmem:(uniP R w c.f.toNat c.j).1.getD ((uniP R w c.f.toNat c.j).1.length-1) 0 ∈ (uniP R w c.f.toNat c.j).1:=getD_mem' (by omega)
  have hu':=a1 _ hmem
  refine ⟨by rw [eu];exact hk.p,fun y hy=>?_,⟨w,hwk,by rw [eu];exact hok.2⟩,fun y g1 g2=>?_,by omega,hb.2.1⟩
  ·rw [eu] at hy
   have:=hk.b y hy
   exact ⟨by omega,hlast y hy⟩
  ·rw [eu]
   exact a2 y (by omega) (by omega)
 ·cases he
theorem foldl_insK {ks:List Int}:∀ {l:List Int},l.Nodup→(∀ y ∈ l,y ∉ ks)→l.foldl insK ks=ks++l
 | [],_,_=>by simp
 | x :: l,hd,hn=>by
  have h1:=List.nodup_cons.1 hd
  rw [List.foldl_cons]
  have e:insK ks x=ks++[x]:=by unfold insK;rw [if_neg (hn x (by simp))]
  rw [e,foldl_insK h1.2 (fun y hy q=>?_),List.append_assoc];rfl
  rcases List.mem_append.1 q with q|q
  ·exact hn y (List.mem_cons_of_mem _ hy) q
  ·rw [List.mem_singleton] at q;exact h1.1 (q ▸ hy)
def lgC (R:Rib) (c:Ct):Int:=match R.W[c.w.toNat]? with|none=>0|some w=>w.lg
def lgS (R:Rib):List Ct→Int
 | []=>0
 | c :: p=>lgC R c+lgS R p
theorem lgS_app {R:Rib}:∀ {p q:List Ct},lgS R (p++q)=lgS R p+lgS R q
 | [],q=>by simp [lgS]
 | c :: p,q=>by rw [List.cons_append,lgS,lgS,lgS_app];omega
structure Tn (R:Rib) (p:List Ct) (a:Int) (ks T:List Int):Prop where
 len:(T.length:Int)=ks.length+lgS R p
 nd:T.Nodup
 b:∀ y ∈ T,y ∈ ks ∨ (a≤y∧y<R.L)
 at_:∀ c ∈ p,∀ e,takC R c=some e→∀ u:Nat,c.f≤(u:Int)→(u:Int)<e.1→((u:Int) ∈ T ↔ (c.j && badF R u)=false)
 ks:∀ y ∈ ks,y ∈ T
theorem tkn_ok {R:Rib} (hR:RibOk R):∀ {p:List Ct} {a s:Int} {ks:List Int},(plnL R p a s).2=0→0≤a→ks.Nodup→(∀ y ∈ ks,y<a)→Tn R p a ks (tknL R p ks)
 | [],a,s,ks,_,_,hd,_=>⟨by simp [tknL,lgS],hd,fun y hy=>.inl hy,fun c hc=>(by cases hc),fun y hy=>hy⟩
 | d :: p,a,s,ks,h,ha,hd,hb=>by
  unfold plnL at h
  split at h
  ·simp at h
  ·rename_i h1
   have h1:=Classical.not_not.1 h1
   split at h
   ·simp at h
   ·rename_i e he
    split at h
    ·simp at h
    ·rename_i h2
     have tk:=tk_of hR h1.1 h1.2 he
     have ef:=tk.f
     have hnd:(takU R d).Nodup:=tk.p.imp fun q=>by omega
     have eK:=foldl_insK (ks:=ks) hnd (fun y hy q=>by have:=tk.b y hy;have:=hb y q;omega)
     have ih:=tkn_ok hR (p:=p) (a:=e.1) (s:=s+e.2) (ks:=ks++takU R d) h (by omega) (List.nodup_append.2 ⟨hd,hnd,fun x hx y hy q=>by have:=tk.b y hy;have:=hb x hx;omega⟩) (fun y hy=>by
      rcases List.mem_append.1 hy with q|q
      ·have:=hb y q;omega
      ·exact (tk.b y q).2)
     rw [tknL,eK]
     obtain ⟨w,hw,hlg⟩:=tk.n
     have el:lgC R d=w.lg:=by unfold lgC;rw [hw]
     have il:=ih.len
     rw [List.length_append] at il
     refine ⟨by rw [lgS,el];omega,ih.nd,fun y hy=>?_,fun c hc e' he' u g1 g2=>?_,fun y hy=>ih.ks y (List.mem_append_left _ hy)⟩
     ·rcases ih.b y hy with q|q
      ·rcases List.mem_append.1 q with q|q
       ·exact .inl q
       ·have:=tk.b y q;have:=tk.l;exact .inr (by omega)
      ·exact .inr (by omega)
     ·rcases List.mem_cons.1 hc with rfl|hc
      ·rw [he] at he'
       obtain rfl:=Option.some.inj he'
       rw [← tk.m u g1 g2]
       constructor
       ·intro q
        rcases ih.b _ q with z|z
        ·rcases List.mem_append.1 z with z|z
         ·have:=hb _ z;omega
         ·exact z
        ·omega
       ·intro q
        exact ih.ks _ (List.mem_append_right _ q)
      ·exact ih.at_ c hc e' he' u g1 g2
theorem tkn_all {R:Rib} (hR:RibOk R) {p:List Ct} {s:Int} (h:plnL R p 0 0=(s,0)):Tn R p 0 [] (tknL R p [])∧smS (spnN (tknL R p []) R.L.toNat)+lgS R p=R.L:=by
 have hL:=hR.L
 have t:=tkn_ok hR (p:=p) (a:=0) (s:=0) (ks:=[]) (by rw [h]) (Int.le_refl _) (by simp) (by simp)
 refine ⟨t,?_⟩
 have hn:=(spnN_k (t:=tknL R p []) R.L.toNat).2
 have hl:=cnN_len (n:=R.L.toNat) t.nd (fun y hy=>by
  rcases t.b y hy with q|q
  ·cases q
  ·omega)
 have:=t.len
 simp only [List.length_nil] at this
 omega
end Go.AM
namespace Go.AM
theorem pln_take {R:Rib}:∀ (p:List Ct) (a s:Int) (m:Nat),(plnL R p a s).2=0→(plnL R (p.take m) a s).2=0
 | [],a,s,m,h=>by rw [List.take_nil];exact h
 | c :: p,a,s,0,h=>by rw [List.take_zero];rfl
 | c :: p,a,s,m+1,h=>by
  rw [List.take_succ_cons]
  unfold plnL at h ⊢
  split at h
  ·simp at h
  ·rename_i c1
   rw [if_neg c1]
   split at h
   ·simp at h
   ·rename_i e he
    try rw [he]
    try simp only at h
    split at h
    ·simp at h
    ·rename_i c2
     rw [if_neg c2]
     exact pln_take p _ _ m h
theorem cnN_nn {t:List Int}:∀ n,0≤cnN t n
 | 0=>Int.le_refl _
 | n+1=>by
  have:=cnN_nn (t:=t) n
  rw [cnN]
  split<;>omega
theorem lgC_bd {R:Rib} (hR:RibOk R) {p:List Ct} (h:(plnL R p 0 0).2=0) {c:Ct} (hc:c ∈ p):∃ w,R.W[c.w.toNat]?=some w∧lgC R c=w.lg∧(1≤w.lg∧w.lg≤60)∧0≤c.w∧c.w<(R.W.length:Int):=by
 obtain ⟨⟨h1,_⟩,_⟩:=plnL_rng h c hc
 have hl:c.w.toNat<R.W.length:=by omega
 refine ⟨R.W[c.w.toNat],List.getElem?_eq_getElem hl,?_,(hR.W _ (List.getElem_mem hl)).lg,by omega,by omega⟩
 unfold lgC
 rw [List.getElem?_eq_getElem hl]
theorem lgS_len {R:Rib}:∀ {p:List Ct},(∀ c ∈ p,1≤lgC R c)→(p.length:Int)≤lgS R p
 | [],_=>by simp [lgS]
 | c :: p,h=>by
  have h1:=lgS_len (p:=p) fun d hd=>h d (List.mem_cons_of_mem _ hd)
  have h2:=h c (List.mem_cons_self)
  rw [lgS,List.length_cons]
  omega
theorem waste_law {R:Rib} (hR:RibOk R) {p:List Ct} (h:(plnL R p 0 0).2=0):(rstE R p).2=0∧smS (rstE R p).1+lgS R p=R.L∧0≤smS (rstE R p).1∧(p.length:Int)≤lgS R p:=by
 have ec:chkR R=0:=chkR_iff.2 hR
 have e1:plnE R p=plnL R p 0 0:=by unfold plnE;rw [if_neg (by simp [ec])]
 have e2:rstE R p=(spnN (tknL R p []) R.L.toNat,0):=by unfold rstE;rw [e1,if_neg (by simp [h])]
 have t:=tkn_all hR (p:=p) (s:=(plnL R p 0 0).1) (Prod.ext rfl h)
 have k:=(spnN_k (t:=tknL R p []) R.L.toNat).2
 have nn:=cnN_nn (t:=tknL R p []) R.L.toNat
 rw [e2]
 refine ⟨rfl,t.2,by simp only;omega,lgS_len fun c hc=>?_⟩
 obtain ⟨w,_,e,b,_⟩:=lgC_bd hR h hc
 omega
def ct0:Ct:=⟨0,0,false⟩
def wgN (R:Rib) (p:List Ct) (i:Nat):List (Int × Int × Int × Int):=(List.range i).map fun j=>(((2+j:Nat):Int),lgC R (p.getD j ct0),0,0)
theorem wgN_succ {R:Rib} {p:List Ct} {i:Nat}:wgN R p (i+1)=wgN R p i++[(((2+i:Nat):Int),lgC R (p.getD i ct0),0,0)]:=by
 unfold wgN
 rw [List.range_succ,List.map_append];rfl
theorem wgN_len {R:Rib} {p:List Ct} {i:Nat}:(wgN R p i).length=i:=by simp [wgN]
theorem gF_wgN {R:Rib} (hR:RibOk R) {p:List Ct} (h:(plnL R p 0 0).2=0) {n:Nat} (hn:2≤n∧n≤12):∀ i,i+2≤n→i≤p.length→∀ j,gF n ((0,R.L,0,0) :: wgN R p i) j=if j=0 then (R.L,R.L) else if 2≤j∧j<2+i then (lgC R (p.getD (j-2) ct0),lgC R (p.getD (j-2) ct0)) else iniF n j
 | 0,_,_,j=>by
  have hL:=hR.L
  show nar (iniF n) 0 R.L R.L j=_
  by_cases e:j=0
  ·subst e
   rw [nar_at,if_pos rfl]
   have:iniF n 0=(0,10000):=by unfold iniF;rw [if_pos (by omega)]
   rw [this]
   exact Prod.ext (by simp only;omega) (by simp only;omega)
  ·rw [nar_ne e,if_neg e,if_neg (by omega)]
 | i+1,h1,h2,j=>by
  have ih:=gF_wgN hR h hn i (by omega) (by omega)
  rw [wgN_succ,← List.cons_append,gF_snoc]
  simp only [Int.toNat_natCast]
  obtain ⟨w,_,e1,b1,_⟩:=lgC_bd hR h (c:=p.getD i ct0) (getD_mem' (by omega))
  by_cases e:j=2+i
  ·subst e
   rw [nar_at,ih,if_neg (by omega),if_neg (by omega),if_neg (by omega),if_pos (by omega)]
   have:iniF n (2+i)=(0,10000):=by unfold iniF;rw [if_pos (by omega)]
   rw [this,show 2+i-2=i by omega]
   exact Prod.ext (by simp only;omega) (by simp only;omega)
  ·rw [nar_ne e,ih]
   by_cases e0:j=0
   ·rw [if_pos e0,if_pos e0]
   ·rw [if_neg e0,if_neg e0]
    by_cases c:2≤j∧j<2+i
    ·rw [if_pos c,if_pos (by omega)]
    ·rw [if_neg c,if_neg (by omega)]
theorem lgS_take {R:Rib} {p:List Ct} {k:Nat} (hk:k<p.length):lgS R (p.take (k+1))=lgS R (p.take k)+lgC R (p.getD k ct0):=by
 rw [List.take_add_one,getD_some (d:=ct0) hk,lgS_app]
 simp [lgS]
theorem wgd_plan {R:Rib} (hR:RibOk R) {p:List Ct} (h:(plnL R p 0 0).2=0) (hp:p.length≤10):Wgd (p.length+2) (gF (p.length+2) ((0,R.L,0,0) :: wgN R p p.length)) R.L (lgS R p):=by
 obtain ⟨_,l1,l2,l3⟩:=waste_law hR h
 have hL:=hR.L
 have g:=gF_wgN hR h (n:=p.length+2) (by omega) p.length (by omega) (Nat.le_refl _)
 have g1:gF (p.length+2) ((0,R.L,0,0) :: wgN R p p.length) 1=(0,10000):=by
  rw [g,if_neg (by omega),if_neg (by omega)]
  unfold iniF;rw [if_pos (by omega)]
 refine ⟨by omega,by rw [g,if_pos rfl],by rw [g1];simp only;omega,by rw [g1];simp only;omega,fun q h1 h2=>?_,fun q h1 h2=>?_,?_,by omega⟩
 ·rw [g,if_neg (by omega),if_pos (by omega)]
  obtain ⟨w,_,e1,b1,_⟩:=lgC_bd hR h (c:=p.getD (q-2) ct0) (getD_mem' (by omega))
  obtain ⟨z,ez⟩:∃ z,z=lgC R (p.getD (q-2) ct0):=⟨_,rfl⟩
  rw [← ez] at e1 ⊢
  exact ⟨rfl,by show 0≤z;omega,by show z≤100;omega⟩
 ·rw [g,if_neg (by omega),if_neg (by omega)]
  unfold iniF;rw [if_neg (by omega)]
 ·have key:∀ k,k≤p.length→suL (gF (p.length+2) ((0,R.L,0,0) :: wgN R p p.length)) (k+1)=lgS R (p.take k):=by
   intro k
   induction k with
   | zero =>
    intro _
    show 0+(gF _ _ 1).1=_
    rw [g1,List.take_zero];rfl
   | succ k ih =>
    intro hk
    rw [suL,ih (by omega),lgS_take (by omega),g,if_neg (by omega),if_pos (by omega),show k+1+1-2=k by omega]
  rw [show p.length+2-1=p.length+1 by omega,key _ (Nat.le_refl _),List.take_length,g1]
  simp
end Go.AM
namespace Go.AM
open Go.Proofs.Tryz
theorem smS_nn:∀ {l:List (Int × Int)},(∀ y ∈ l,y.1≤y.2)→(l.length:Int)≤smS l
 | [],_=>by simp [smS]
 | y :: l,h=>by
  have h1:=smS_nn (l:=l) fun z hz=>h z (List.mem_cons_of_mem _ hz)
  have h2:=h y (List.mem_cons_self)
  rw [smS,List.length_cons];omega
theorem smS_take {l:List (Int × Int)} (h:∀ y ∈ l,y.1≤y.2) (i:Nat):0≤smS (l.take i)∧smS (l.take i)≤smS l:=by
 have a:=smS_nn (l:=l.take i) fun y hy=>h y (List.mem_of_mem_take hy)
 have b:=smS_nn (l:=l.drop i) fun y hy=>h y (List.mem_of_mem_drop hy)
 have e:smS (l.take i++l.drop i)=smS l:=by rw [List.take_append_drop]
 rw [smS_app] at e
 omega
theorem smS_succ {l:List (Int × Int)} {i:Nat} {y:Int × Int} (h:l[i]?=some y):smS (l.take (i+1))=smS (l.take i)+(y.2-y.1+1):=by
 rw [List.take_add_one,h,smS_app]
 simp [smS]
theorem rst_bd {R:Rib} (hR:RibOk R) {p:List Ct} (h:(plnL R p 0 0).2=0):∀ y ∈ (rstE R p).1,0≤y.1∧y.1≤y.2∧y.2<R.L:=by
 have ec:chkR R=0:=chkR_iff.2 hR
 have e1:plnE R p=plnL R p 0 0:=by unfold plnE;rw [if_neg (by simp [ec])]
 have e2:rstE R p=(spnN (tknL R p []) R.L.toNat,0):=by unfold rstE;rw [e1,if_neg (by simp [h])]
 have k:=(spnN_k (t:=tknL R p []) R.L.toNat).1.b
 have hL:=hR.L
 rw [e2]
 intro y hy
 have:=k y hy
 omega
theorem Rows.head {α:Type} {E:Enc α} {H:Heap} {id ver n m:Nat} {e:TypeId} {l:List α} (hg:H[id]?=some (rowE E e l ver)) (hm:m≤l.length) (hn:n=l.length) (hl:l.length<2 ^ 60):Rows E H (.slice (some ⟨id,ver,0⟩) m n) (l.take m):=by
 have e1:(l.take m).length=m:=by rw [List.length_take];omega
 have e2:flat E l=flat E (l.take m)++flat E (l.drop m):=by rw [← flat_app,List.take_append_drop]
 have e3:(flat E (l.take m)).length=m * E.z:=by rw [flat_len,e1]
 refine ⟨by omega,.inr (.inr ⟨⟨id,ver,0⟩,n,_,_,_,_,by rw [e1],hg,?_,?_,by omega⟩)⟩
 ·rw [List.drop_zero,e1,e2,← e3,List.take_left]
 ·rw [e1,flat_len]
  show 0+m * E.z≤l.length * E.z
  rw [Nat.zero_add];exact Nat.mul_le_mul_right _ hm
theorem MilAt.box {H:Heap} {v:AVal} {M:Mil} {i:Nat} {E E':Int} {a b a' b':AVal} (hM:MilAt H v M) (hg:H[i]?=some (mlB E a b)) (hn:2≤M.L.length):MilAt (H.set i (mlB E' a' b')) v M:=by
 obtain ⟨lv,wv,rfl,hL,hG⟩:=hM
 have hlt:=lt_of_get hg
 refine ⟨lv,wv,rfl,?_,?_⟩
 ·refine hL.set fun r n c e q=>?_
  rcases hL.2 with ⟨q1,_⟩|⟨q1,_⟩|⟨r',k,c',e',row,ro,q1,q2,q3,q4,_⟩
  ·rw [q1] at e;cases e
  ·rw [q1] at e;cases e
  ·rw [q1] at e
   simp only [AVal.slice.injEq,Option.some.injEq] at e
   obtain ⟨rfl,_⟩:=e
   rw [q,hg] at q2
   simp only [Option.some.injEq,ABlk.mk.injEq,ABody.cells.injEq] at q2
   obtain ⟨⟨rfl,_⟩,_⟩:=q2
   have:encS.z=2:=rfl
   rw [this] at q4
   simp at q4
   omega
 ·rcases hG.2 with q1|q1|⟨r,k,c,e,row,ro,q1,q2,q3,q4,q5⟩
  ·exact ⟨hG.1,.inl q1⟩
  ·exact ⟨hG.1,.inr (.inl q1)⟩
  ·by_cases q:r.id=i
   ·rw [q,hg] at q2
    simp only [Option.some.injEq,ABlk.mk.injEq,ABody.cells.injEq] at q2
    obtain ⟨⟨rfl,rfl,rfl,rfl⟩,hv⟩:=q2
    have hz:encG.z=4:=rfl
    rw [hz] at q4
    simp only [List.length_cons,List.length_nil] at q4
    have h0:M.G.length=0:=by omega
    have h1:=List.eq_nil_of_length_eq_zero h0
    refine ⟨hG.1,.inr (.inr ⟨r,k,[.int .i64 E',a',b'],87,false,false,q1,by rw [q,List.getElem?_set_self hlt,← hv],?_,by rw [h0];simp;omega,q5⟩)⟩
    rw [h1];simp [flat]
   ·exact ⟨hG.1,.inr (.inr ⟨r,k,c,e,row,ro,q1,by rw [List.getElem?_set_ne (fun z=>q z.symm)];exact q2,q3,q4,q5⟩)⟩
end Go.AM
