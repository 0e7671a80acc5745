/-
  CutSpoilt, walked.
-/
import Derived.Test.YtikgghhceolaeaaGreatU22
set_option linter.unusedSimpArgs false
set_option linter.unusedVariables false
namespace Go.AM
open Go.Proofs.Tryz
attribute [-go_sem] put_ne put_same
attribute [local go_sem ↓] put_if
namespace Flt
theorem stY12 {base:Nat} {l:List Oper} {s:St} {Q:AExit→St→Prop}:WP prog raw base (.region 10 l.toArray true) s Q=WPS prog raw base (.region 10 l.toArray true) s Q:=WP_stop
attribute [local go_sem ↓ 3000] stY12
set_option maxRecDepth 100000 in
set_option maxHeartbeats 8000000 in
theorem run_CutSpoilt {base:Nat} {h:Heap} {v0 v1:AVal} {l0 l1:List Int} {x2 x3:Int} (hB0:Bytes h v0 l0) (hB1:Bytes h v1 l1) (hx2:0≤x2∧x2≤255) (hx3:0≤x3∧x3≤255) :
  callL prog raw base (.fn 3 [] []) [v0,v1,.int .u8 x2,.int .u8 x3] h=some (.bool true,h):=by
 have o0:=hB0.one
 have o1:=hB1.one
 have hw0:=run_wound (base:=h.length) hB0
 obtain ⟨H0,eH0⟩:∃ H0,H0=h++[spB v0 l0 0]:=⟨_,rfl⟩
 rw [← eH0] at hw0
 have hS0:SpAt H0 h.length v0 l0 0:=by rw [eH0];exact SpAt.new hB0 rfl
 have l00:H0.length=h.length+1:=by rw [eH0];simp
 have x00:Ext h H0:=by rw [eH0];exact .app .refl
 obtain ⟨_,H1,e1,L,t,k1,pv,sv,tv,hk1,q1,rfl,oP,oS,oT,hc,hX,hR4,hT12,hP5,hS4⟩:=run_made (base:=h.length) (T0:=12) (P0:=5) (S0:=4) (by omega) hS0 (by omega) (by omega) (by omega) (by omega)
 have xh1:Ext h H1:=Ext.trans (x00.set (Nat.le_refl _)) q1
 have lH1:=xh1.len
 obtain ⟨c1,c2,c3,c4,c5,c6⟩:=chkM_ok hc
 have hrs:=lom_small hc
 have htr:truOk L t:=hX.1
 have htl:=truth_len htr
 have otv:=oT.one
 have rT:=oT.rows (by omega)
 have LA:LomAt H1 (lomV L.R L.T pv sv) L:=⟨pv,sv,rfl,oP.parts (by omega) (fun p hp=>(hrs p hp).1),oS.rows (by omega)⟩
 have opv:=oP.one
 have osv:=oS.one
 obtain ⟨wh,ewh,hwh⟩:∃ w,w=x2.tmod L.R∧-100≤w∧w≤1000:=⟨_,rfl,by
  have h1:=Int.tmod_nonneg L.R hx2.1
  have h2:=Int.tmod_lt_of_pos x2 (show 0<L.R by omega)
  omega⟩
 have tz:(L.R=0)=False:=eq_false (by omega)
 have cv2:=cvtN' hx2
 have cv3:=cvtN' hx3
 obtain ⟨G1,eG1⟩:∃ G1,G1=H1++[lmB L.R L.T pv sv]:=⟨_,rfl⟩
 have xG1:Ext H1 G1:=by rw [eG1];exact .app .refl
 have gl1:G1[H1.length]?=some (lmB L.R L.T pv sv):=by rw [eG1];exact get_eq rfl
 have lG1:G1.length=H1.length+1:=by rw [eG1];simp
 obtain ⟨G,eG⟩:∃ G,G=G1++[intW1 wh]:=⟨_,rfl⟩
 have xG:Ext G1 G:=by rw [eG];exact .app .refl
 have gw:G[G1.length]?=some (intW1 wh):=by rw [eG];exact get_eq rfl
 have gl:=xG.get gl1
 have lG:G.length=H1.length+2:=by rw [eG];simp [lG1]
 have xhG:=xh1.trans (xG1.trans xG)
 have hB1G:=hB1.ext xhG
 have hw1:=run_wound (base:=h.length) hB1G
 obtain ⟨G',eG'⟩:∃ G',G'=G++[spB v1 l1 0]:=⟨_,rfl⟩
 rw [← eG'] at hw1
 have xG':Ext G G':=by rw [eG'];exact .app .refl
 have hSq:SpAt G' G.length v1 l1 0:=by rw [eG'];exact SpAt.new hB1G rfl
 have lG':G'.length=G.length+1:=by rw [eG'];simp
 have x1G':=(xG1.trans xG).trans xG'
 obtain ⟨_,Z1,e3,z1,fv,F,rfl,oF,hFs,hFm,hFl⟩:=run_ribbon1 (base:=h.length) (lid:=H1.length) (wid:=G1.length) (h:=G') (t:=t) (by omega) (xG'.get gl) (xG'.get gw) (LA.ext x1G') hrs hc (rT.ext x1G') htr.2
 have lZ1:=z1.len
 have ofv:=oF.one
 have hFb:∀ y ∈ F,0≤y∧y≤L.T-1:=fun y hy=>by have:=((hFm y).1 hy).1;omega
 have hSZ:SpAt Z1 G.length v1 l1 0:=⟨z1.get hSq.1,hB1.ext (xhG.trans (xG'.trans z1)),hSq.2.2⟩
 have uq:=up_bd (silk:=l1) (k:=0) (n:=4-1) (by omega)
 have hSY:SpAt (Z1++[ribB L.T fv (.slice none 0 0)]) G.length v1 l1 0:=hSZ.app
 have eq0:=fun base=>run_from (base:=base) (lo:=1) (hi:=4) hSY (by omega) (by omega) (by omega)
 obtain ⟨z,ez⟩:=Int.eq_ofNat_of_zero_le (show 0≤1+up l1 0 (4-1) by omega)
 have hz4:z≤4:=by omega
 rw [ez] at eq0
 obtain ⟨Y0,eY0⟩:∃ Y0,Y0=Z1++[ribB L.T fv (.slice none 0 0)]:=⟨_,rfl⟩
 rw [← eY0] at eq0 hSY
 have gY0:Y0[Z1.length]?=some (ribB L.T fv (.slice none 0 0)):=by rw [eY0];exact get_eq rfl
 have xY0:Ext Z1 Y0:=by rw [eY0];exact .app .refl
 have lY0:Y0.length=Z1.length+1:=by rw [eY0];simp
 obtain ⟨Y1,eY1⟩:∃ Y1,Y1=Y0.set G.length (spB v1 l1 (0+1)):=⟨_,rfl⟩
 rw [← eY1] at eq0
 have hidZ:G.length<Z1.length:=by omega
 have sY1:SpE Z1 G.length v1 l1 (0+1) Y1:=by
  rw [eY1]
  exact ((SpE.refl hSZ).ext xY0).step hidZ
 have gY1:Y1[Z1.length]?=some (ribB L.T fv (.slice none 0 0)):=by rw [eY1,List.getElem?_set_ne (by omega)];exact gY0
 have oF1:Own encI 3 G'.length Y1 fv F:=by rw [eY1];exact (oF.ext xY0).set (by omega)
 have lY1:Y1.length=Y0.length:=by rw [eY1,List.length_set]
 clear ez uq
 unfold lmB at eG1
 unfold intW1 at eG
 unfold ribB at eY0
 unfold lomV at e1
 have glG1:=gl1
 unfold lmB at glG1
 refine callL_run func3 rfl rfl ?_
 have hsp:=@Nat.succ_ne_zero;repeat' (first|simp (disch:=first|exact dqd|fail) only [go_sem,↓reduceIte,hsp,hw0,e1,← eG1,cv2,glG1,← ewh,tz,← eG,hw1,e3,← eY0,eq0]|refine WP_drw ?_|refine cnd_intro (fun hsp=>?_) fun hsp=>?_)
 refine WP_count [(54,66)] 0 z (Nat.zero_le _) (fun _ j fr K=>fr 54=.int .i64 (j:Int)∧∃ W wv k,k≤1+2 * j∧SpE Z1 G.length v1 l1 k K∧K[Z1.length]?=some (ribB L.T fv wv)∧Own encI 3 G'.length K fv F∧Own encW 50 (Z1.length+1) K wv W∧W.length≤j∧∀ w ∈ W,WntOk w∧w.fl=0∧w.jn=0) ?_ ?_ ?_
 ·exact ⟨by (simp (disch:=first|exact dqd|fail) only [go_sem,↓reduceIte,Int.natCast_zero];first|done|rfl),[],.slice none 0 0,0+1,by omega,sY1,gY1,oF1,Own.nil,Nat.le_refl _,by simp⟩
 ·rintro j fr K hj0 hj hA ⟨d54,W,wv,k,hk,sK,cK,oFK,oW,hWl,hWo⟩
  have d3:=hA 3 rfl
  have d8:=hA 8 rfl
  have d10:=hA 10 rfl
  have d12:=hA 12 rfl
  have d13:=hA 13 rfl
  have d14:=hA 14 rfl
  have d53:=hA 53 rfl
  try simp (disch:=first|exact dqd|fail) only [go_sem,↓reduceIte] at d3 d8 d10 d12 d13 d14 d53
  have hlt:((j:Int)<(z:Int))=True:=eq_true (by omega)
  have owv:=oW.one
  have lK:=lt_of_get cK
  have ub1:=up_bd (silk:=l1) (k:=k) (n:=(5-1)) (by omega)
  have f1:=fun base=>run_from (base:=base) (lo:=1) (hi:=5) (sK.at hSZ) (by omega) (by omega) (by omega)
  obtain ⟨w1,ew1⟩:∃ w1,w1=1+up l1 k (5-1):=⟨_,rfl⟩
  rw [← ew1] at f1
  obtain ⟨M1,eM1⟩:∃ M1,M1=K.set G.length (spB v1 l1 (k+1)):=⟨_,rfl⟩
  rw [← eM1] at f1
  have sM1:SpE Z1 G.length v1 l1 (k+1) M1:=by rw [eM1];exact sK.step hidZ
  have cM1:M1[Z1.length]?=some (ribB L.T fv wv):=by rw [eM1,List.getElem?_set_ne (by omega)];exact cK
  have fM1:Own encI 3 G'.length M1 fv F:=by rw [eM1];exact oFK.set (by omega)
  have wM1:Own encW 50 (Z1.length+1) M1 wv W:=by rw [eM1];exact oW.set (by omega)
  have lM1:M1.length=K.length:=by rw [eM1,List.length_set]
  have ub2:=up_bd (silk:=l1) (k:=k+1) (n:=30) (by omega)
  have f2:=fun base=>run_upto (base:=base) (n:=30) (sM1.at hSZ) (by omega) (by omega)
  obtain ⟨w2,ew2⟩:∃ w2,w2=up l1 (k+1) 30:=⟨_,rfl⟩
  rw [← ew2] at f2
  obtain ⟨M2,eM2⟩:∃ M2,M2=M1.set G.length (spB v1 l1 (k+1+1)):=⟨_,rfl⟩
  rw [← eM2] at f2
  have sM2:SpE Z1 G.length v1 l1 (k+1+1) M2:=by rw [eM2];exact sM1.step hidZ
  have cM2:M2[Z1.length]?=some (ribB L.T fv wv):=by rw [eM2,List.getElem?_set_ne (by omega)];exact cM1
  have fM2:Own encI 3 G'.length M2 fv F:=by rw [eM2];exact fM1.set (by omega)
  have wM2:Own encW 50 (Z1.length+1) M2 wv W:=by rw [eM2];exact wM1.set (by omega)
  have lM2:M2.length=M1.length:=by rw [eM2,List.length_set]
  have bsw:∀ {lit:Bool},bsA prog lit M2 33 1 [(0,.agg [.int .i64 w1,.int .i64 w2,.int .i64 0,.int .i64 0,.int .i64 0])]=some (.slice (some ⟨M2.length,0,0⟩) 1 1,M2++[rowE encW 50 [⟨w1,w2,0,0,0⟩] 0]):=fun {lit}=>bsWW1 (w:=⟨w1,w2,0,0,0⟩)
  obtain ⟨w',M3,ea,oW3,lW3,eW3,oneW,kW⟩:=snocWW (base:=h.length) (r:=⟨w1,w2,0,0,0⟩) wM2 (by omega) (by omega) (by omega)
  have c3':=kW.box cM2
  have f3:=kW.own fM2 (by decide)
  have s3:SpE Z1 G.length v1 l1 (k+1+1) M3:=eW3 _ (by rw [List.length_set];omega) sM2
  have cK2:=cK
  unfold ribB at cK2
  have hlow:refsLow K.length wv:=oW.low_refs
  have hsp:=@Nat.succ_ne_zero;repeat' (first|simp (disch:=first|exact dqd|fail) only [go_sem,↓reduceIte,hsp,d3,d8,d10,d12,d13,d14,d53,d54,hlt]|refine WP_drw ?_|refine cnd_intro (fun hsp=>?_) fun hsp=>?_)
  refine WPS_go ?_
  refine WP_wild [⟨1,33,56,⟨Z1.length,0,2⟩,wv,8⟩] (by kernel_rfl) (by kernel_rfl) (by kernel_rfl) ⟨hlow,trivial⟩ fun KK hK=>?_
  iterate 11
   rw [TRS_cons]
   refine ⟨by first|(simp (disch:=first|exact dqd|fail) only [go_sem,↓reduceIte,d3,d8,d10,d12,d13,d14,d53,d54,cK2,f1,cM1,f2,cM2,bsw,ea,c3',ldsQ_cons,ldsQ_nil,grdQ_cons,grdQ_nil,if_true,Nat.reduceLeDiff];done)|exact trivial,?_⟩
   simp (disch:=first|exact dqd|fail) only [go_sem,↓reduceIte,d3,d8,d10,d12,d13,d14,d53,d54,cK2,f1,cM1,f2,cM2,bsw,ea,c3']
  rw [TRS_nil]
  refine ⟨by first|(simp (disch:=first|exact dqd|fail) only [go_sem,↓reduceIte,d3,d8,d10,d12,d13,d14,d53,d54,cK2,f1,cM1,f2,cM2,bsw,ea,c3',ldsQ_cons,ldsQ_nil,grdQ_cons,grdQ_nil,if_true,Nat.reduceLeDiff];done)|exact trivial,?_⟩
  subst hK
  have hsp:=@Nat.succ_ne_zero;repeat' (first|simp (disch:=first|exact dqd|fail) only [go_sem,↓reduceIte,hsp,d3,d8,d10,d12,d13,d14,d53,d54]|refine WP_drw ?_|refine cnd_intro (fun hsp=>?_) fun hsp=>?_)
  refine ⟨agq,by omega,W++[⟨w1,w2,0,0,0⟩],w',k+1+1,by omega,Ext.set s3 (by rw [List.length_set];omega),rfl,Own.setBox f3 c3',Own.setBox oW3 c3',by simp;omega,fun w hw=>?_⟩
  rcases List.mem_append.1 hw with hw|hw
  ·exact hWo w hw
  ·rw [List.mem_singleton] at hw
   rw [hw]
   exact ⟨⟨by simp only;omega,by simp only;omega,by simp only;omega,by simp only;omega,by simp only;omega⟩,rfl,rfl⟩
 ·rintro fr K hA ⟨d54,W,wv,k,hk,sK,cK,oFK,oW,hWl,hWo⟩
  have d3:=hA 3 rfl
  have d8:=hA 8 rfl
  have d10:=hA 10 rfl
  have d12:=hA 12 rfl
  have d13:=hA 13 rfl
  have d14:=hA 14 rfl
  have d53:=hA 53 rfl
  try simp (disch:=first|exact dqd|fail) only [go_sem,↓reduceIte] at d3 d8 d10 d12 d13 d14 d53
  have hlt:((z:Int)<(z:Int))=False:=eq_false (by omega)
  have owv:=oW.one
  have lK:=lt_of_get cK
  have xGK:Ext G K:=Ext.trans ((xG'.trans z1).set (Nat.le_refl _)) sK
  have x1K:Ext H1 K:=(xG1.trans xG).trans xGK
  obtain ⟨R,eR⟩:∃ R:Rib,R=⟨L.T,F,W⟩:=⟨_,rfl⟩
  have eL:R.L=L.T:=by rw [eR]
  have eF:R.F=F:=by rw [eR]
  have eW:R.W=W:=by rw [eR]
  have hR:RibOk R:=⟨by rw [eL];omega,by rw [eF];omega,by rw [eW];omega,fun w hw=>(hWo w (by rw [eW] at hw;exact hw)).1,fun y hy=>by rw [eF] at hy;rw [eL];exact hFb y hy,by rw [eF];exact hFs⟩
  have hL:=hR.L
  have hR0:∀ w ∈ R.W,w.fl=0∧w.jn=0:=fun w hw=>(hWo w (by rw [eW] at hw;exact hw)).2
  have sF:Small F:=⟨by omega,fun y hy=>by have:=hFb y hy;omega⟩
  have RA:RibAt K (.agg [.int .i64 L.T,fv,wv]) R:=⟨fv,wv,by rw [eL],by rw [eF];exact own_ints oFK sF,by rw [eW];exact oW.rows (by omega)⟩
  have hck:=chkR_iff.2 hR
  obtain ⟨_,B1,e4,z4,pl,rfl,oB⟩:=run_Best (base:=h.length) (h:=K) (by have:=(xhG.trans xGK).len;omega) RA (by rw [eF];omega)
  have lB1:=z4.len
  have ea:allE R=valD R 0:=by unfold allE;rw [if_neg (fun q=>q hck)]
  have eb:bstE false R=pthL false R R.L.toNat 0:=by unfold bstE;rw [if_neg (fun q=>q hck)]
  obtain ⟨p1,-⟩:=pthL_ok (b:=false) hR R.L.toNat 0 0 0 (by omega) (by omega) (by omega)
  rw [folD_e hR (by omega),Int.zero_add] at p1
  have hPl:=bst_len (R:=R)
  rw [ea,hck] at e4
  rw [eb] at oB hPl
  obtain ⟨P,eP⟩:∃ P,P=pthL false R R.L.toNat 0:=⟨_,rfl⟩
  rw [← eP] at oB p1 hPl
  have opl:=oB.one
  have rB:=oB.rows (by omega)
  have e5:=fun base=>run_learned (base:=base) (RA.ext z4) hR rB
  rw [p1] at e5
  simp only [decide_true] at e5
  have hv0:=valD_bd hR (x:=0)
  have gB1:=z4.get cK
  have cK2:=cK
  unfold ribB at cK2 gB1
  have tn:(valD R 0=valD R 0)=True:=eq_self _
  have hnp:=rB.len (P:=prog) Fc.el51
  obtain ⟨vv,evv⟩:∃ vv,vv=valD R 0:=⟨_,rfl⟩
  rw [← evv] at e4 e5 tn hv0
  have tn:(vv=vv)=True:=eq_self _
  have hsp:=@Nat.succ_ne_zero;repeat' (first|simp (disch:=first|exact dqd|fail) only [go_sem,↓reduceIte,hsp,d3,d8,d10,d12,d13,d14,d53,d54,hlt,cK2,e4,gB1,e5,tn,hnp]|refine WP_drw ?_|refine cnd_intro (fun hsp=>?_) fun hsp=>?_)
  refine WP_count [(8,8),(22,25),(92,107)] 0 P.length (Nat.zero_le _) (fun _ i fr X=>fr 92=.int .i64 (i:Int)∧Ext B1 X) ?_ ?_ ?_
  ·exact ⟨by (simp (disch:=first|exact dqd|fail) only [go_sem,↓reduceIte,Int.natCast_zero];first|done|rfl),.refl⟩
  ·rintro i fr2 X hi0 hi hA2 ⟨q92,xX⟩
   have q3:=hA2 3 rfl
   have q10:=hA2 10 rfl
   have q13:=hA2 13 rfl
   have q14:=hA2 14 rfl
   have q17:=hA2 17 rfl
   have q90:=hA2 90 rfl
   have q91:=hA2 91 rfl
   try simp (disch:=first|exact dqd|fail) only [go_sem,↓reduceIte,d3,d10,d13,d14] at q3 q10 q13 q14 q17 q90 q91
   have hlti:((i:Int)<(P.length:Int))=True:=eq_true (by omega)
   obtain ⟨c,ec⟩:∃ c,c=P[i]:=⟨_,rfl⟩
   have hxc:P[i]?=some c:=by rw [ec];exact List.getElem?_eq_getElem hi
   have hcm:=List.mem_of_getElem? hxc
   clear ec
   have rX:=rB.ext xX
   have a2:=rX.addr (P:=prog) (i:=(i:Int)) Fc.el51 Fc.ar51 (by omega) (by omega)
   rw [Int.toNat_natCast] at a2
   have b2:loadP prog X 57 (elAdr pl encC.z i 0)=some (.agg [.int .i64 c.w,.int .i64 c.f,.bool c.j]):=rX.load (P:=prog) Fc.ty57 hxc
   have hhX:=(((xhG.trans xGK).trans z4).trans xX).len
   obtain ⟨X1,eX1⟩:∃ X1,X1=X++[cutB c]:=⟨_,rfl⟩
   have xX1:Ext X X1:=by rw [eX1];exact .app .refl
   have gX1:X1[X.length]?=some (cutB c):=by rw [eX1];exact get_eq rfl
   have lX1:X1.length=X.length+1:=by rw [eX1];simp
   have e6:=fun base=>run_taken (base:=base) (c:=c) (RA.ext ((z4.trans xX).trans xX1)) hR
   obtain ⟨X2,eX2⟩:∃ X2,X2=X1++[intW1 (tknR R c).1]:=⟨_,rfl⟩
   have xX2:Ext X1 X2:=by rw [eX2];exact .app .refl
   have gX2:X2[X1.length]?=some (intW1 (tknR R c).1):=by rw [eX2];exact get_eq rfl
   have lX2:X2.length=X1.length+1:=by rw [eX2];simp
   have e7:=fun base=>anyF_I (base:=base) (g:=.fn 15 [] [.ptr (some ⟨X.length,0,0⟩),.ptr (some ⟨X1.length,0,0⟩)]) (fun u=>decide (c.f≤u∧u<(tknR R c).1)) ((own_ints oFK sF).ext (((z4.trans xX).trans xX1).trans xX2)) (fun base u _=>run_isIn (xX2.get gX1) gX2)
   have hcl:=plan_clean hR hR0 eP hcm
   rw [eF] at hcl
   rw [hcl] at e7
   have gr1:=((z4.trans xX).trans xX1).get cK
   have gr2:=xX2.get gr1
   have fin:Ext B1 X2:=(xX.trans xX1).trans xX2
   generalize (tknR R c).1=te at eX2 e6
   generalize (tknR R c).2.1=tp at e6
   generalize (tknR R c).2.2=tb at e6
   unfold cutB at eX1 gX1
   unfold intW1 at eX2
   unfold ribB at gr1 gr2
   have hsp:=@Nat.succ_ne_zero;repeat' (first|simp (disch:=first|exact dqd|fail) only [go_sem,↓reduceIte,hsp,q3,q10,q13,q14,q17,q90,q91,q92,d3,d8,d10,d12,d13,d14,d53,d54,hlti,a2,b2,← eX1,gX1,gr1,e6,← eX2,gr2,e7]|refine WP_drw ?_|refine cnd_intro (fun hsp=>?_) fun hsp=>?_)
   exact ⟨agq,by omega,fin⟩
  ·rintro fr2 X hA2 ⟨q92,xX⟩
   have q3:=hA2 3 rfl
   have q10:=hA2 10 rfl
   have q13:=hA2 13 rfl
   have q14:=hA2 14 rfl
   have q17:=hA2 17 rfl
   have q90:=hA2 90 rfl
   have q91:=hA2 91 rfl
   try simp (disch:=first|exact dqd|fail) only [go_sem,↓reduceIte,d3,d10,d13,d14] at q3 q10 q13 q14 q17 q90 q91
   have hlti:((P.length:Int)<(P.length:Int))=False:=eq_false (by omega)
   have x1X:=(x1K.trans z4).trans xX
   have xGX:=(xGK.trans z4).trans xX
   have hhX:=(xhG.trans xGX).len
   have rTX:=rT.ext x1X
   have hnt:=rTX.len (P:=prog) Fc.el27
   have gr:=(z4.trans xX).get cK
   have hnF:=lenI ((own_ints oFK sF).ext (z4.trans xX))
   have fend:=(xhG.trans xGX)
   unfold ribB at gr
   by_cases ct:t=[]
   ·subst ct
    have hF0:F=[]:=List.eq_nil_iff_forall_not_mem.2 fun y hy=>by
     obtain ⟨_,b,hb,_⟩:=(hFm y).1 hy
     cases hb
    rw [hF0] at hnF
    have tF:((([]:List Int).length:Int)=0)=True:=eq_true rfl
    have tT:((([]:List Brk).length:Int)=0)=True:=eq_true rfl
    have hsp:=@Nat.succ_ne_zero;repeat' (first|simp (disch:=first|exact dqd|fail) only [go_sem,↓reduceIte,hsp,q3,q10,q13,q14,q17,q90,q91,q92,d3,d8,d10,d12,d13,d14,d53,d54,hlti,hnt,tT,gr,hnF,tF,run_awake]|refine WP_drw ?_|refine cnd_intro (fun hsp=>?_) fun hsp=>?_)
    exact fB rfl fend
   ·have ht0:0<t.length:=List.length_pos_iff.2 ct
    have tT:((t.length:Int)=0)=False:=eq_false (by omega)
    obtain ⟨x3n,ex3⟩:=Int.eq_ofNat_of_zero_le hx3.1
    obtain ⟨i,ei,li⟩:∃ i,i=x3n % t.length∧i<t.length:=⟨_,rfl,Nat.mod_lt _ (by omega)⟩
    have mi:x3.tmod (t.length:Int)=(i:Int):=by rw [ex3,ei];rfl
    clear ei ex3
    obtain ⟨_,C1,e8,y8,-,hne⟩:=run_cloneB (base:=h.length) rTX (by omega)
    obtain ⟨rfl,eC1⟩:=hne ct
    have lC1:C1.length=X.length+1:=by rw [eC1];simp
    have gC1:C1[X.length]?=some (bkB t):=by rw [eC1];exact get_eq rfl
    obtain ⟨_,C2,e9,rfl,eC2⟩:=run_deleteB (base:=h.length) (i:=i) gC1 (by omega) li (by omega)
    have lC2:C2.length=C1.length:=by rw [eC2,List.length_set]
    have gC2:C2[X.length]?=some (bkB (t.eraseIdx i++[brk0])):=by rw [eC2,List.getElem?_set_self (by omega)]
    have xC2:Ext X C2:=by rw [eC2];exact y8.set (Nat.le_refl _)
    have hel:(t.eraseIdx i).length=t.length-1:=by rw [List.length_eraseIdx,if_pos li]
    have rC2:Rows encB C2 (.slice (some ⟨X.length,0,0⟩) (t.length-1) t.length) (t.eraseIdx i):=by
     refine ⟨by omega,.inr (.inr ⟨⟨X.length,0,0⟩,t.length,flat encB (t.eraseIdx i++[brk0]),38,true,false,by rw [hel],gC2,?_,?_,by omega⟩)⟩
     ·show ((flat encB (t.eraseIdx i++[brk0])).drop 0).take _=_
      rw [List.drop_zero,flat_app,← flat_len,List.take_left]
     ·rw [flat_len,List.length_append,Nat.add_mul];simp only;omega
    have x1C:=x1X.trans xC2
    have xGC:=xGX.trans xC2
    obtain ⟨_,D1,e10,y10,fv2,F2,rfl,oF2,hFs2,hFm2,hFl2⟩:=run_ribbon1 (base:=h.length) (lid:=H1.length) (wid:=G1.length) (h:=C2) (t:=t.eraseIdx i) (by omega) (xGC.get gl) (xGC.get gw) (LA.ext x1C) hrs hc rC2 (fun b hb=>htr.2 b (List.mem_of_mem_eraseIdx hb))
    have lD1:=y10.len
    have ofv2:=oF2.one
    obtain ⟨D2,eD2⟩:∃ D2,D2=D1++[ribB L.T fv2 (.slice none 0 0)]:=⟨_,rfl⟩
    have xD2:Ext D1 D2:=by rw [eD2];exact .app .refl
    have gD2:D2[D1.length]?=some (ribB L.T fv2 (.slice none 0 0)):=by rw [eD2];exact get_eq rfl
    have lD2:D2.length=D1.length+1:=by rw [eD2];simp
    have xKD:Ext K D2:=((z4.trans xX).trans xC2).trans (y10.trans xD2)
    have grD:=xKD.get cK
    obtain ⟨D3,eD3⟩:∃ D3,D3=D2.set D1.length (ribB L.T fv2 wv):=⟨_,rfl⟩
    have gD3:D3[D1.length]?=some (ribB L.T fv2 wv):=by rw [eD3,List.getElem?_set_self (by omega)]
    have lKD:=xKD.len
    have xKD1:Ext K D1:=((z4.trans xX).trans xC2).trans y10
    have xKD3:Ext K D3:=by rw [eD3];exact xKD.set xKD1.len
    have oF3:Own encI 3 C2.length D3 fv2 F2:=by rw [eD3];exact (oF2.ext xD2).setBox gD2
    have hFb2:∀ y ∈ F2,0≤y∧y≤L.T-1:=fun y hy=>by have:=((hFm2 y).1 hy).1;omega
    have sF2:Small F2:=⟨by omega,fun y hy=>by have:=hFb2 y hy;omega⟩
    obtain ⟨R2,eR2⟩:∃ R2:Rib,R2=⟨L.T,F2,W⟩:=⟨_,rfl⟩
    have hR2:RibOk R2:=by
     rw [eR2]
     exact ⟨by simp only;omega,by simp only;omega,by simp only;omega,fun w hw=>(hWo w hw).1,hFb2,hFs2⟩
    have RA2:RibAt D3 (.agg [.int .i64 L.T,fv2,wv]) R2:=⟨fv2,wv,by rw [eR2],by rw [eR2];exact own_ints oF3 sF2,by rw [eR2];exact (oW.rows (by omega)).ext xKD3⟩
    obtain ⟨_,D4,e11,y11,pl2,rfl,oB2⟩:=run_Best (base:=h.length) (h:=D3) (by have:=xKD3.len;have:=(xhG.trans xGK).len;omega) RA2 (by rw [eR2];simp only;omega)
    have opl2:=oB2.one
    have hck2:=chkR_iff.2 hR2
    have ea2:allE R2=valD R2 0:=by unfold allE;rw [if_neg (fun q=>q hck2)]
    rw [ea2,hck2] at e11
    have hge:valD R 0≤valD R2 0:=by
     have:=valD_less (L:=L.T) (F:=F) (F':=F2) (W:=W) (fun w hw=>(hWo w hw).2) (fun u hu=>by
      obtain ⟨q1,b,hb,q2⟩:=(hFm2 u).1 hu
      exact (hFm u).2 ⟨q1,b,List.mem_of_mem_eraseIdx hb,q2⟩) (by rw [← eR];exact hR) (by rw [← eR2];exact hR2)
     rw [eR,eR2];exact this
    have tg:(valD R2 0 ≥ vv)=True:=eq_true (by rw [evv];exact hge)
    generalize valD R2 0=v2 at e11 tg
    have gD2':=gD2
    have gD3':=gD3
    unfold ribB at eD2 gD2' grD eD3 gD3'
    have fin:Ext h D4:=(xhG.trans xGK).trans (xKD3.trans y11)
    have hsp:=@Nat.succ_ne_zero;repeat' (first|simp (disch:=first|exact dqd|fail) only [go_sem,↓reduceIte,hsp,q3,q10,q13,q14,q17,q90,q91,q92,d3,d8,d10,d12,d13,d14,d53,d54,hlti,hnt,tT,cv3,mi,e8,e9,e10,← eD2,gD2',grD,← eD3,gD3',e11,tg,run_awake]|refine WP_drw ?_|refine cnd_intro (fun hsp=>?_) fun hsp=>?_)
    exact fB rfl fin
end Flt
end Go.AM
