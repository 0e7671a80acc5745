/-
  Contracts: a mill that is made (Made): its shafts.
-/
import Derived.Test.YtcemgempgbjbeaaGreatU24
set_option linter.unusedSimpArgs false
set_option linter.unusedVariables false
namespace Go.AM
namespace F4
open Go.Proofs.Tryz
theorem dqc {p:Prop} (h:p:=by first|exact Nat.ne_of_beq_eq_false rfl|assumption|(apply asOne;(first|exact One.int|exact One.bool|assumption|exact Ints.one (by assumption)|exact Rows.one (by assumption)|exact Own.one (by assumption)|exact One.lit ⟨rfl,rfl,rfl⟩))|(apply asSp;(repeat first|assumption|apply SpAt.set|(refine SpAt.new ?_ (by (first|rfl|(simp only [List.length_append,List.length_cons,List.length_nil,List.length_set];done)|(simp only [List.length_append,List.length_cons,List.length_nil,List.length_set];omega))))|apply SpAt.app|apply Bytes.app);done)|(apply asBytes;(repeat first|assumption|apply Bytes.app);done)|(apply asInts;(repeat first|assumption|exact ints_nil|apply Ints.app);done)|(apply asRows;(repeat first|assumption|exact Rows.nil|apply Rows.app);done)|(apply asScal;(first|apply allS1|apply allS2|apply allS3|apply allS4)<;>(first|exact One.int|exact One.bool|assumption|exact Ints.one (by assumption)|exact Rows.one (by assumption)|exact Own.one (by assumption)|exact One.lit ⟨rfl,rfl,rfl⟩))|exact litT rfl|exact litF rfl|omega|(simp only [List.length_append,List.length_cons,List.length_nil,List.length_set,List.length_reverse];first|done|omega)|fail):p:=h
attribute [-go_sem] put_ne put_same
attribute [local go_sem ↓] put_if
theorem snocG {α:Type} {E:Enc α} {t e:TypeId} {zs:List AVal} {b base:Nat} {A:Heap} {w:AVal} {l:List α} {r:α} (ht:elS prog t=some (e,E.z,zs)) (hsc:∀ y,(E.cells y).all AVal.scalar=true) (hO:Own E e b A w l) (hb:base≤b) (hbh:b≤A.length) (hl:l.length≤1000000) :
  ∃ w' H,appendA prog base (A++[rowE E e [r] 0]) t w (.slice (some ⟨A.length,0,0⟩) 1 1)=some (w',H)∧Own E e b H w' (l++[r])∧A.length≤H.length∧(∀ G,G.length≤b→Ext G A→Ext G H)∧One w'∧KeepO E e A H:=by
 obtain ⟨B,eB⟩:∃ B,B=A++[rowE E e [r] 0]:=⟨_,rfl⟩
 have xB:Ext A B:=by rw [eB];exact .app .refl
 have lB':B.length=A.length+1:=by rw [eB];simp
 have hx:Rows E B (.slice (some ⟨A.length,0,0⟩) 1 1) [r]:=Rows.own (by rw [eB];exact get_eq rfl) rfl (by simp)
 rw [← eB]
 obtain ⟨w',H,a1,a2,a3,a4,a5,a6⟩:=(hO.ext xB).appendRX (P:=prog) (base:=base) (t:=t) hx ht hsc hb (by omega) (by simp) (by simp;omega)
 have a6:KeepO E e B H:=a6
 exact ⟨w',H,a1,a2,by omega,fun G h1 h2=>a4 G h1 (h2.trans xB),a5,fun i y hi hy=>a6 i y (xB.get hi) hy⟩
theorem bsPS {lit:Bool} {H:Heap} {w:Int × Int}:bsA prog lit H 100 1 [(0,.agg [.int .i64 w.1,.int .i64 w.2])]=some (.slice (some ⟨H.length,0,0⟩) 1 1,H++[rowE encT 189 [w] 0]):=by
 simp [bsA,rowOf,Fc.el100,fillA,repCells,AVal.isN,AVal.cells,splice,rowE,flat,encT]
def SOk (xs:List (Int × Int)):Prop:=∀ (i:Nat) x,xs[i]?=some x→(-1≤x.1∧x.1<(i:Int))∧(0≤x.2∧x.2≤60)
theorem SOk.snoc {xs:List (Int × Int)} {x:Int × Int} (h:SOk xs) (hx:(-1≤x.1∧x.1<(xs.length:Int))∧(0≤x.2∧x.2≤60)):SOk (xs++[x]):=by
 intro i y hy
 rw [List.getElem?_append] at hy
 split at hy
 ·exact h i y hy
 ·have:i-xs.length=0:=by
   have:=(List.getElem?_eq_some_iff.1 hy).1
   simp at this
   omega
  rw [this] at hy
  simp at hy
  subst hy
  have e:i=xs.length:=by omega
  rw [e]
  exact hx
def MdI (h:Heap) (id:Nat) (v:AVal) (silk:List Int) (k:Nat) (K:Heap) (sv:AVal) (xs:List (Int × Int)):Prop :=
 SpE h id v silk k K∧K[h.length]?=some (pwB (.slice none 0 0) (.slice none 0 0))∧K[h.length+1]?=some (pwB sv (.slice none 0 0))∧Own encT 189 (h.length+2) K sv xs∧SOk xs∧h.length+2≤K.length
theorem MdI.turn {h K:Heap} {id k k':Nat} {v sv:AVal} {silk:List Int} {xs:List (Int × Int)} (x:MdI h id v silk k K sv xs) (hid:id<h.length):MdI h id v silk k' (K.set id (spB v silk k')) sv xs:=by
 obtain ⟨a,b,c,d,e,f⟩:=x
 exact ⟨a.step hid,by rw [List.getElem?_set_ne (by omega)];exact b,by rw [List.getElem?_set_ne (by omega)];exact c,d.set (by omega),e,by rw [List.length_set];exact f⟩
theorem snocTo {P:Prop} (h:P):P:=h
theorem bsPV {lit:Bool} {H:Heap} {s:Int} {hv:AVal} (ho:One hv):bsA prog lit H 101 1 [(0,.agg [.int .i64 s,hv])]=some (.slice (some ⟨H.length,0,0⟩) 1 1,H++[rowE encV 191 [(s,hv)] 0]):=by
 have e:norm hv=hv:=norm_one ho
 have hc:hv.cells=[hv]:=ho.2.1
 simp [bsA,rowOf,Fc.el101,fillA,repCells,AVal.isN,AVal.cells,splice,rowE,flat,encV,e]
def MwI (h:Heap) (id:Nat) (v:AVal) (silk:List Int) (k:Nat) (K:Heap) (sv wv:AVal) (xs:List (Int × Int)) (vs:List (Int × AVal)):Prop :=
 (SpE h id v silk k K∧h.length+2≤K.length)∧K[h.length]?=some (pwB (.slice none 0 0) (.slice none 0 0))∧K[h.length+1]?=some (pwB sv wv)∧Own encT 189 (h.length+2) K sv xs∧Own encV 191 (h.length+2) K wv vs∧∀ x ∈ vs,(0≤x.1∧x.1<(xs.length:Int))∧∃ hs,Own encI 3 (h.length+2) K x.2 hs∧HrOk hs
theorem MwI.turn {h K:Heap} {id k k':Nat} {v sv wv:AVal} {silk:List Int} {xs:List (Int × Int)} {vs:List (Int × AVal)} (x:MwI h id v silk k K sv wv xs vs) (hid:id<h.length):MwI h id v silk k' (K.set id (spB v silk k')) sv wv xs vs:=by
 obtain ⟨⟨a,f⟩,b,c,d,e,g⟩:=x
 exact ⟨⟨a.step hid,by rw [List.length_set];exact f⟩,by rw [List.getElem?_set_ne (by omega)];exact b,by rw [List.getElem?_set_ne (by omega)];exact c,d.set (by omega),e.set (by omega),fun y hy=>by obtain ⟨q,hs,o,r⟩:=g y hy;exact ⟨q,hs,o.set (by omega),r⟩⟩
theorem MwI.ext {h K H:Heap} {id k:Nat} {v sv wv:AVal} {silk:List Int} {xs:List (Int × Int)} {vs:List (Int × AVal)} (x:MwI h id v silk k K sv wv xs vs) (t:Ext K H):MwI h id v silk k H sv wv xs vs:=by
 obtain ⟨⟨a,f⟩,b,c,d,e,g⟩:=x
 have:=t.len
 exact ⟨⟨a.ext t,by omega⟩,t.get b,t.get c,d.ext t,e.ext t,fun y hy=>by obtain ⟨q,hs,o,r⟩:=g y hy;exact ⟨q,hs,o.ext t,r⟩⟩
abbrev wvB (s:Int) (hv:AVal):ABlk:=⟨.cells [.int .i64 s,hv] 191 false false,0⟩
def HrI (K1:Heap) (id:Nat) (v:AVal) (silk:List Int) (k:Nat) (s:Int) (a:Nat) (H:Heap):Prop:=∃ hv hs,SpE K1 id v silk k H∧H[K1.length]?=some (wvB s hv)∧Own encI 3 (K1.length+1) H hv hs∧hs.length≤a∧(∀ y ∈ hs,0≤y∧y<(a:Int))∧hs.Pairwise (·<·)∧K1.length+1≤H.length
theorem stQ63 {base:Nat} {l:List Oper} {s:St} {Q:AExit→St→Prop}:WP prog raw base (.region 8 l.toArray true) s Q=WPS prog raw base (.region 8 l.toArray true) s Q:=WP_stop
attribute [local go_sem ↓ 3000] stQ63
set_option maxRecDepth 100000 in
set_option maxHeartbeats 4000000 in
theorem run_pMade {base id k0:Nat} {h:Heap} {v:AVal} {silk:List Int} {A B:Int} (hb:base≤h.length) (hS:SpAt h id v silk k0) (hk:k0≤100000) (hA:1≤A∧A≤6) (hB:0≤B∧B≤6) :
  Ret prog raw base (.fn 26 [] []) [.ptr (some ⟨id,0,0⟩),.int .i64 A,.int .i64 B] h (fun w H=>∃ P k',PwAt H w P∧POk P∧(k0≤k'∧k'≤k0+100)∧SpE h id v silk k' H):=by
 have hid:=lt_of_get hS.1
 have b1:=up_bd (silk:=silk) (k:=k0) (n:=A-1) (by omega)
 obtain ⟨G,eG⟩:∃ G,G=h++[pwB (.slice none 0 0) (.slice none 0 0)]++[pwB (.slice none 0 0) (.slice none 0 0)]:=⟨_,rfl⟩
 have lG:G.length=h.length+2:=by rw [eG];simp
 have xG:Ext h G:=by rw [eG];exact .app (.app .refl)
 have hS0:SpAt G id v silk k0:=hS.ext xG
 have f1:=fun base=>run_from (base:=base) (lo:=1) (hi:=A) hS0 (by omega) (by omega) (by omega)
 obtain ⟨N,eN⟩:∃ N,N=1+up silk k0 (A-1):=⟨_,rfl⟩
 have hN:1≤N∧N≤A:=by omega
 rw [← eN] at f1
 obtain ⟨n,rfl⟩:=Int.eq_ofNat_of_zero_le (show 0≤N by omega)
 have m0:MdI h id v silk k0 G (.slice none 0 0) []:=⟨(SpE.refl hS).ext xG,by rw [eG];exact get_app (get_eq rfl),by rw [eG];exact get_eq (by simp),Own.nil,fun i x hx=>by simp at hx,by omega⟩
 have m1:=m0.turn (k':=k0+1) hid
 obtain ⟨G1,eG1⟩:∃ G1,G1=G.set id (spB v silk (k0+1)):=⟨_,rfl⟩
 rw [← eG1] at f1 m1
 unfold pwB at eG
 refine ret_raw func26 rfl (by kernel_rfl) ?_
 have hsp:=@Nat.succ_ne_zero;repeat' (first|simp (disch:=first|exact dqc|fail) only [go_sem,↓reduceIte,hsp,← eG,f1]|refine WP_drw ?_|refine cnd_intro (fun hsp=>?_) fun hsp=>?_)
 refine WP_count [(8,9),(15,38)] 0 n (Nat.zero_le _) (fun _ i fr K=>fr 15=.int .i64 (i:Int)∧∃ k' sv xs,(k0≤k'∧k'≤k0+1+3 * i)∧MdI h id v silk k' K sv xs∧xs.length=i) ?_ ?_ ?_
 ·exact ⟨by (simp (disch:=first|exact dqc|fail) only [go_sem,↓reduceIte,Int.natCast_zero];first|done|rfl),k0+1,_,[],by omega,m1,rfl⟩
 ·rintro i fr K hi0 hi hAg ⟨r15,k',sv,xs,hk',mK,hxl⟩
  have q0:=hAg 0 rfl
  have q2:=hAg 2 rfl
  have q6:=hAg 6 rfl
  have q7:=hAg 7 rfl
  have q14:=hAg 14 rfl
  try simp (disch:=first|exact dqc|fail) only [go_sem,↓reduceIte] at q0 q2 q6 q7 q14
  have hlt:((i:Int)<(n:Int))=True:=eq_true (by omega)
  have so:=mK.2.2.2.1.one
  by_cases c0:i=0
  ·have t0:((i:Int) > 0)=False:=eq_false (by omega)
   obtain ⟨u,eu⟩:∃ u:Int,u=-1:=⟨_,rfl⟩
   obtain ⟨C,eC⟩:∃ C,C=K:=⟨_,rfl⟩
   obtain ⟨kc,ekc⟩:∃ kc,kc=k':=⟨_,rfl⟩
   have mC:=mK
   rw [← eC,← ekc] at mC
   have hsp:=@Nat.succ_ne_zero;repeat' (first|simp (disch:=first|exact dqc|fail) only [go_sem,↓reduceIte,hsp,r15,q0,q2,q6,q7,q14,hlt,t0]|refine WP_drw ?_|refine cnd_intro (fun hsp=>?_) fun hsp=>?_)
   rw [← eC,← eu]
   have mu:=up_bd (silk:=silk) (k:=kc) (n:=20) (by omega)
   have ez:=fun base=>run_upto (base:=base) (n:=20) (mC.1.at hS) (by omega) (by omega)
   obtain ⟨z,ezz⟩:∃ z,z=up silk kc 20:=⟨_,rfl⟩
   rw [← ezz] at ez mu
   have mD:=mC.turn (k':=kc+1) hid
   obtain ⟨D,eD⟩:∃ D,D=C.set id (spB v silk (kc+1)):=⟨_,rfl⟩
   rw [← eD] at ez mD
   obtain ⟨_,_,cC,oC,_,_⟩:=snocTo mC
   obtain ⟨aD,bD,cD,oD,sD,lD⟩:=snocTo mD
   obtain ⟨w',M6,ea,oW6,lW6,eW6,oneW,kW⟩:=snocG (base:=base) (t:=100) (r:=((u,z):Int × Int)) Fc.el100 encT_sc oD (by omega) (by omega) (by omega)
   have c6:=kW.box cD
   have b6:=kW.box bD
   have x6:SpE h id v silk (kc+1) M6:=eW6 _ (by rw [List.length_set];omega) aD
   have bsw:∀ {lit:Bool},bsA prog lit D 100 1 [(0,.agg [.int .i64 u,.int .i64 z])]=some (.slice (some ⟨D.length,0,0⟩) 1 1,D++[rowE encT 189 [((u,z):Int × Int)] 0]):=fun {lit}=>bsPS (w:=(u,z))
   have hlow:refsLow C.length sv:=oC.low_refs
   have hfin:MdI h id v silk (kc+1) (M6.set (h.length+1) (pwB w' (.slice none 0 0))) w' (xs++[(u,z)]) :=
    ⟨Ext.set x6 (by rw [List.length_set];omega),by rw [List.getElem?_set_ne (by omega)];exact b6,by rw [List.getElem?_set_self (lt_of_get c6)],Own.setBox oW6 c6,sD.snoc ⟨by simp only;omega,by simp only;omega⟩,by rw [List.length_set];omega⟩
   unfold pwB at cC cD c6 hfin
   refine WPS_go ?_
   refine WP_wild [⟨1,100,29,⟨h.length+1,0,0⟩,sv,7⟩] (by kernel_rfl) (by kernel_rfl) (by kernel_rfl) ⟨hlow,trivial⟩ fun KK hK=>?_
   iterate 10
    rw [TRS_cons]
    refine ⟨by first|(simp (disch:=first|exact dqc|fail) only [go_sem,↓reduceIte,r15,q0,q2,q6,q7,q14,cC,ez,cD,bsw,ea,c6,ldsQ_cons,ldsQ_nil,grdQ_cons,grdQ_nil,if_true,Nat.reduceLeDiff];done)|exact trivial,?_⟩
    simp (disch:=first|exact dqc|fail) only [go_sem,↓reduceIte,r15,q0,q2,q6,q7,q14,cC,ez,cD,bsw,ea,c6]
   rw [TRS_nil]
   refine ⟨by first|(simp (disch:=first|exact dqc|fail) only [go_sem,↓reduceIte,r15,q0,q2,q6,q7,q14,cC,ez,cD,bsw,ea,c6,ldsQ_cons,ldsQ_nil,grdQ_cons,grdQ_nil,if_true,Nat.reduceLeDiff];done)|exact trivial,?_⟩
   subst hK
   have hsp:=@Nat.succ_ne_zero;repeat' (first|simp (disch:=first|exact dqc|fail) only [go_sem,↓reduceIte,hsp,r15,q0,q2,q6,q7,q14]|refine WP_drw ?_|refine cnd_intro (fun hsp=>?_) fun hsp=>?_)
   exact ⟨agq,by omega,kc+1,w',xs++[(u,z)],by omega,hfin,by simp;omega⟩
  ·have t0:((i:Int) > 0)=True:=eq_true (by omega)
   have e1:=fun base=>run_once (base:=base) (n:=4) (mK.1.at hS) (by omega) (by omega)
   have mK1:=mK.turn (k':=k'+1) hid
   obtain ⟨K1,eK1⟩:∃ K1,K1=K.set id (spB v silk (k'+1)):=⟨_,rfl⟩
   rw [← eK1] at e1 mK1
   rcases Bool.eq_false_or_eq_true (decide (up silk k' (4-1)=0)) with qb|qb
   ·rw [qb] at e1
    obtain ⟨u,eu⟩:∃ u:Int,u=-1:=⟨_,rfl⟩
    obtain ⟨C,eC⟩:∃ C,C=K1:=⟨_,rfl⟩
    obtain ⟨kc,ekc⟩:∃ kc,kc=k'+1:=⟨_,rfl⟩
    have mC:=mK1
    rw [← eC,← ekc] at mC
    have hsp:=@Nat.succ_ne_zero;repeat' (first|simp (disch:=first|exact dqc|fail) only [go_sem,↓reduceIte,hsp,r15,q0,q2,q6,q7,q14,hlt,t0,e1]|refine WP_drw ?_|refine cnd_intro (fun hsp=>?_) fun hsp=>?_)
    rw [← eC,← eu]
    have mu:=up_bd (silk:=silk) (k:=kc) (n:=20) (by omega)
    have ez:=fun base=>run_upto (base:=base) (n:=20) (mC.1.at hS) (by omega) (by omega)
    obtain ⟨z,ezz⟩:∃ z,z=up silk kc 20:=⟨_,rfl⟩
    rw [← ezz] at ez mu
    have mD:=mC.turn (k':=kc+1) hid
    obtain ⟨D,eD⟩:∃ D,D=C.set id (spB v silk (kc+1)):=⟨_,rfl⟩
    rw [← eD] at ez mD
    obtain ⟨_,_,cC,oC,_,_⟩:=snocTo mC
    obtain ⟨aD,bD,cD,oD,sD,lD⟩:=snocTo mD
    obtain ⟨w',M6,ea,oW6,lW6,eW6,oneW,kW⟩:=snocG (base:=base) (t:=100) (r:=((u,z):Int × Int)) Fc.el100 encT_sc oD (by omega) (by omega) (by omega)
    have c6:=kW.box cD
    have b6:=kW.box bD
    have x6:SpE h id v silk (kc+1) M6:=eW6 _ (by rw [List.length_set];omega) aD
    have bsw:∀ {lit:Bool},bsA prog lit D 100 1 [(0,.agg [.int .i64 u,.int .i64 z])]=some (.slice (some ⟨D.length,0,0⟩) 1 1,D++[rowE encT 189 [((u,z):Int × Int)] 0]):=fun {lit}=>bsPS (w:=(u,z))
    have hlow:refsLow C.length sv:=oC.low_refs
    have hfin:MdI h id v silk (kc+1) (M6.set (h.length+1) (pwB w' (.slice none 0 0))) w' (xs++[(u,z)]) :=
     ⟨Ext.set x6 (by rw [List.length_set];omega),by rw [List.getElem?_set_ne (by omega)];exact b6,by rw [List.getElem?_set_self (lt_of_get c6)],Own.setBox oW6 c6,sD.snoc ⟨by simp only;omega,by simp only;omega⟩,by rw [List.length_set];omega⟩
    unfold pwB at cC cD c6 hfin
    refine WPS_go ?_
    refine WP_wild [⟨1,100,29,⟨h.length+1,0,0⟩,sv,7⟩] (by kernel_rfl) (by kernel_rfl) (by kernel_rfl) ⟨hlow,trivial⟩ fun KK hK=>?_
    iterate 10
     rw [TRS_cons]
     refine ⟨by first|(simp (disch:=first|exact dqc|fail) only [go_sem,↓reduceIte,r15,q0,q2,q6,q7,q14,cC,ez,cD,bsw,ea,c6,ldsQ_cons,ldsQ_nil,grdQ_cons,grdQ_nil,if_true,Nat.reduceLeDiff];done)|exact trivial,?_⟩
     simp (disch:=first|exact dqc|fail) only [go_sem,↓reduceIte,r15,q0,q2,q6,q7,q14,cC,ez,cD,bsw,ea,c6]
    rw [TRS_nil]
    refine ⟨by first|(simp (disch:=first|exact dqc|fail) only [go_sem,↓reduceIte,r15,q0,q2,q6,q7,q14,cC,ez,cD,bsw,ea,c6,ldsQ_cons,ldsQ_nil,grdQ_cons,grdQ_nil,if_true,Nat.reduceLeDiff];done)|exact trivial,?_⟩
    subst hK
    have hsp:=@Nat.succ_ne_zero;repeat' (first|simp (disch:=first|exact dqc|fail) only [go_sem,↓reduceIte,hsp,r15,q0,q2,q6,q7,q14]|refine WP_drw ?_|refine cnd_intro (fun hsp=>?_) fun hsp=>?_)
    exact ⟨agq,by omega,kc+1,w',xs++[(u,z)],by omega,hfin,by simp;omega⟩
   ·rw [qb] at e1
    have ux:=up_bd (silk:=silk) (k:=k'+1) (n:=(i:Int)-1) (by omega)
    have e2:=fun base=>run_upto (base:=base) (n:=(i:Int)-1) (mK1.1.at hS) (by omega) (by omega)
    obtain ⟨u,eu⟩:∃ u:Int,u=up silk (k'+1) ((i:Int)-1):=⟨_,rfl⟩
    rw [← eu] at e2 ux
    have mC:=mK1.turn (k':=k'+1+1) hid
    obtain ⟨C,eC⟩:∃ C,C=K1.set id (spB v silk (k'+1+1)):=⟨_,rfl⟩
    obtain ⟨kc,ekc⟩:∃ kc,kc=k'+1+1:=⟨_,rfl⟩
    rw [← eC] at e2 mC
    rw [← ekc] at mC
    have hsp:=@Nat.succ_ne_zero;repeat' (first|simp (disch:=first|exact dqc|fail) only [go_sem,↓reduceIte,hsp,r15,q0,q2,q6,q7,q14,hlt,t0,e1,e2]|refine WP_drw ?_|refine cnd_intro (fun hsp=>?_) fun hsp=>?_)
    have mu:=up_bd (silk:=silk) (k:=kc) (n:=20) (by omega)
    have ez:=fun base=>run_upto (base:=base) (n:=20) (mC.1.at hS) (by omega) (by omega)
    obtain ⟨z,ezz⟩:∃ z,z=up silk kc 20:=⟨_,rfl⟩
    rw [← ezz] at ez mu
    have mD:=mC.turn (k':=kc+1) hid
    obtain ⟨D,eD⟩:∃ D,D=C.set id (spB v silk (kc+1)):=⟨_,rfl⟩
    rw [← eD] at ez mD
    obtain ⟨_,_,cC,oC,_,_⟩:=snocTo mC
    obtain ⟨aD,bD,cD,oD,sD,lD⟩:=snocTo mD
    obtain ⟨w',M6,ea,oW6,lW6,eW6,oneW,kW⟩:=snocG (base:=base) (t:=100) (r:=((u,z):Int × Int)) Fc.el100 encT_sc oD (by omega) (by omega) (by omega)
    have c6:=kW.box cD
    have b6:=kW.box bD
    have x6:SpE h id v silk (kc+1) M6:=eW6 _ (by rw [List.length_set];omega) aD
    have bsw:∀ {lit:Bool},bsA prog lit D 100 1 [(0,.agg [.int .i64 u,.int .i64 z])]=some (.slice (some ⟨D.length,0,0⟩) 1 1,D++[rowE encT 189 [((u,z):Int × Int)] 0]):=fun {lit}=>bsPS (w:=(u,z))
    have hlow:refsLow C.length sv:=oC.low_refs
    have hfin:MdI h id v silk (kc+1) (M6.set (h.length+1) (pwB w' (.slice none 0 0))) w' (xs++[(u,z)]) :=
     ⟨Ext.set x6 (by rw [List.length_set];omega),by rw [List.getElem?_set_ne (by omega)];exact b6,by rw [List.getElem?_set_self (lt_of_get c6)],Own.setBox oW6 c6,sD.snoc ⟨by simp only;omega,by simp only;omega⟩,by rw [List.length_set];omega⟩
    unfold pwB at cC cD c6 hfin
    refine WPS_go ?_
    refine WP_wild [⟨1,100,29,⟨h.length+1,0,0⟩,sv,7⟩] (by kernel_rfl) (by kernel_rfl) (by kernel_rfl) ⟨hlow,trivial⟩ fun KK hK=>?_
    iterate 10
     rw [TRS_cons]
     refine ⟨by first|(simp (disch:=first|exact dqc|fail) only [go_sem,↓reduceIte,r15,q0,q2,q6,q7,q14,cC,ez,cD,bsw,ea,c6,ldsQ_cons,ldsQ_nil,grdQ_cons,grdQ_nil,if_true,Nat.reduceLeDiff];done)|exact trivial,?_⟩
     simp (disch:=first|exact dqc|fail) only [go_sem,↓reduceIte,r15,q0,q2,q6,q7,q14,cC,ez,cD,bsw,ea,c6]
    rw [TRS_nil]
    refine ⟨by first|(simp (disch:=first|exact dqc|fail) only [go_sem,↓reduceIte,r15,q0,q2,q6,q7,q14,cC,ez,cD,bsw,ea,c6,ldsQ_cons,ldsQ_nil,grdQ_cons,grdQ_nil,if_true,Nat.reduceLeDiff];done)|exact trivial,?_⟩
    subst hK
    have hsp:=@Nat.succ_ne_zero;repeat' (first|simp (disch:=first|exact dqc|fail) only [go_sem,↓reduceIte,hsp,r15,q0,q2,q6,q7,q14]|refine WP_drw ?_|refine cnd_intro (fun hsp=>?_) fun hsp=>?_)
    exact ⟨agq,by omega,kc+1,w',xs++[(u,z)],by omega,hfin,by simp;omega⟩
 ·rintro fr K hAg ⟨r15,k',sv,xs,hk',mK,hxl⟩
  have q0:=hAg 0 rfl
  have q2:=hAg 2 rfl
  have q6:=hAg 6 rfl
  have q7:=hAg 7 rfl
  have q14:=hAg 14 rfl
  try simp (disch:=first|exact dqc|fail) only [go_sem,↓reduceIte] at q0 q2 q6 q7 q14
  have hlt:((n:Int)<(n:Int))=False:=eq_false (by omega)
  have ubz:=up_bd (silk:=silk) (k:=k') (n:=B) (by omega)
  have ez:=fun base=>run_upto (base:=base) (n:=B) (mK.1.at hS) (by omega) (by omega)
  obtain ⟨z,ezz⟩:=Int.eq_ofNat_of_zero_le ubz.1
  rw [ezz] at ez ubz
  have mK0:=mK.turn (k':=k'+1) hid
  obtain ⟨K0,eK0⟩:∃ K0,K0=K.set id (spB v silk (k'+1)):=⟨_,rfl⟩
  rw [← eK0] at ez mK0
  obtain ⟨y1,y2,y3,y4,hSk,y6⟩:=mK0
  have hsp:=@Nat.succ_ne_zero;repeat' (first|simp (disch:=first|exact dqc|fail) only [go_sem,↓reduceIte,hsp,r15,q0,q2,q6,q7,q14,hlt,ez]|refine WP_drw ?_|refine cnd_intro (fun hsp=>?_) fun hsp=>?_)
  refine WP_count [(10,11),(42,69)] 0 z (Nat.zero_le _) (fun _ j fr K'=>fr 42=.int .i64 (j:Int)∧∃ k2 wv vs,(k0≤k2∧k2≤k'+1+13 * j)∧MwI h id v silk k2 K' sv wv xs vs∧vs.length=j) ?_ ?_ ?_
  ·exact ⟨by (simp (disch:=first|exact dqc|fail) only [go_sem,↓reduceIte,Int.natCast_zero];first|done|rfl),k'+1,.slice none 0 0,[],by omega,⟨⟨y1,y6⟩,y2,y3,y4,Own.nil,by simp⟩,rfl⟩
  ·rintro j fr2 K' hj0 hj hA2 ⟨r42,k2,wv,vs,hk2,mW,hvl⟩
   have d0:=hA2 0 rfl
   have d6:=hA2 6 rfl
   have d7:=hA2 7 rfl
   have d41:=hA2 41 rfl
   try simp (disch:=first|exact dqc|fail) only [go_sem,↓reduceIte,q0,q6,q7] at d0 d6 d7 d41
   have hlt2:((j:Int)<(z:Int))=True:=eq_true (by omega)
   have hSK:=mW.1.1.at hS
   have hn:=(mW.2.2.2.1.rows (by omega)).len (P:=prog) Fc.el100
   have ub1:=up_bd (silk:=silk) (k:=k2) (n:=(xs.length:Int)-1) (by omega)
   have e1:=fun base=>run_upto (base:=base) (n:=(xs.length:Int)-1) hSK (by omega) (by omega)
   obtain ⟨s,es⟩:∃ s,s=up silk k2 ((xs.length:Int)-1):=⟨_,rfl⟩
   rw [← es] at e1 ub1
   have m1:=mW.turn (k':=k2+1) hid
   obtain ⟨K1,eK1⟩:∃ K1,K1=K'.set id (spB v silk (k2+1)):=⟨_,rfl⟩
   rw [← eK1] at e1 m1
   have hS1:=m1.1.1.at hS
   have l1:=m1.1.2
   have cW:=mW.2.2.1
   unfold pwB at cW
   obtain ⟨K2,eK2⟩:∃ K2,K2=K1++[wvB s (.slice none 0 0)]:=⟨_,rfl⟩
   have hr0:HrI K1 id v silk (k2+1) s 0 K2:=by
    rw [eK2]
    exact ⟨.slice none 0 0,[],(SpE.refl hS1).app,get_eq rfl,Own.nil,by simp,by simp,.nil,by simp⟩
   unfold wvB at eK2
   have hsp:=@Nat.succ_ne_zero;repeat' (first|simp (disch:=first|exact dqc|fail) only [go_sem,↓reduceIte,hsp,r42,d0,d6,d7,d41,q0,q2,q6,q7,q14,hlt2,cW,hn,e1,← eK2]|refine WP_drw ?_|refine cnd_intro (fun hsp=>?_) fun hsp=>?_)
   refine WP_count [(11,11),(51,62)] 0 12 (Nat.zero_le _) (fun _ a fr H=>fr 51=.int .i64 (a:Int)∧∃ k3,(k2+1≤k3∧k3≤k2+1+a)∧HrI K1 id v silk k3 s a H) ?_ ?_ ?_
   ·exact ⟨by (simp (disch:=first|exact dqc|fail) only [go_sem,↓reduceIte,Int.natCast_zero];first|done|rfl),k2+1,by omega,hr0⟩
   ·rintro a fr3 H ha0 ha hA3 ⟨r51,k3,hk3,hv,hs,xH,gH,oH,hHl,hHb,hHs,lH⟩
    have c0:=hA3 0 rfl
    have c6:=hA3 6 rfl
    have c7:=hA3 7 rfl
    have c10:=hA3 10 rfl
    have c41:=hA3 41 rfl
    have c42:=hA3 42 rfl
    try simp (disch:=first|exact dqc|fail) only [go_sem,↓reduceIte,d0,d6,d7,d41] at c0 c6 c7 c10 c41 c42
    have hlt3:((a:Int)<12)=True:=eq_true (by omega)
    have ov:=oH.one
    have f1:=fun base=>run_once (base:=base) (n:=3) (xH.at hS1) (by omega) (by omega)
    obtain ⟨H1,eH1⟩:∃ H1,H1=H.set id (spB v silk (k3+1)):=⟨_,rfl⟩
    rw [← eH1] at f1
    have idl:id<K1.length:=by omega
    have xH1:SpE K1 id v silk (k3+1) H1:=by rw [eH1];exact xH.step idl
    have gH1:H1[K1.length]?=some (wvB s hv):=by rw [eH1,List.getElem?_set_ne (by omega)];exact gH
    have oH1:Own encI 3 (K1.length+1) H1 hv hs:=by rw [eH1];exact oH.set (by omega)
    have lH1:H1.length=H.length:=by rw [eH1,List.length_set]
    rcases Bool.eq_false_or_eq_true (decide (up silk k3 (3-1)=0)) with qb|qb
    ·rw [qb] at f1
     obtain ⟨w',H3,ea,oW,lW,eW,oneW,kW⟩:=oH1.append1X (P:=prog) (y:=(a:Int)) (a:=.int .i64 (a:Int)) (base:=base) (t:=35) rfl rfl Fc.el35 encI_sc (by omega) (by omega) (by omega)
     have kW:KeepO encI 3 H1 H3:=kW
     have g3:=kW.box gH1
     have x3:SpE K1 id v silk (k3+1) H3:=eW _ (by rw [List.length_set];omega) xH1
     have hfin:HrI K1 id v silk (k3+1) s (a+1) (H3.set K1.length (wvB s w')):=by
      refine ⟨w',hs++[(a:Int)],Ext.set x3 (by rw [List.length_set];omega),by rw [List.getElem?_set_self (lt_of_get g3)],Own.setBox oW g3,by simp;omega,fun y hy=>?_,?_,by rw [List.length_set];omega⟩
      ·rcases List.mem_append.1 hy with hy|hy
       ·have:=hHb y hy;omega
       ·rw [List.mem_singleton] at hy;omega
      ·refine List.pairwise_append.2 ⟨hHs,by simp,fun x hx b hb=>?_⟩
       have:=hHb x hx
       rw [List.mem_singleton] at hb;omega
     unfold wvB at gH1 g3 hfin
     have hsp:=@Nat.succ_ne_zero;repeat' (first|simp (disch:=first|exact dqc|fail) only [go_sem,↓reduceIte,hsp,r51,c0,c6,c7,c10,c41,c42,d0,d6,d7,d41,q0,q2,q6,q7,q14,hlt3,f1,gH1,ea,g3]|refine WP_drw ?_|refine cnd_intro (fun hsp=>?_) fun hsp=>?_)
     exact ⟨agq,by omega,k3+1,by omega,hfin⟩
    ·rw [qb] at f1
     have hsp:=@Nat.succ_ne_zero;repeat' (first|simp (disch:=first|exact dqc|fail) only [go_sem,↓reduceIte,hsp,r51,c0,c6,c7,c10,c41,c42,d0,d6,d7,d41,q0,q2,q6,q7,q14,hlt3,f1]|refine WP_drw ?_|refine cnd_intro (fun hsp=>?_) fun hsp=>?_)
     exact ⟨agq,by omega,k3+1,by omega,hv,hs,xH1,gH1,oH1,by omega,fun y hy=>by have:=hHb y hy;omega,hHs,by omega⟩
   ·rintro fr3 H hA3 ⟨r51,k3,hk3,hv,hs,xH,gH,oH,hHl,hHb,hHs,lH⟩
    have c0:=hA3 0 rfl
    have c6:=hA3 6 rfl
    have c7:=hA3 7 rfl
    have c10:=hA3 10 rfl
    have c41:=hA3 41 rfl
    have c42:=hA3 42 rfl
    try simp (disch:=first|exact dqc|fail) only [go_sem,↓reduceIte,d0,d6,d7,d41] at c0 c6 c7 c10 c41 c42
    have hlt3:((12:Int)<12)=False:=eq_false (by omega)
    have ov:=oH.one
    have mH:MwI h id v silk k3 H sv wv xs vs:=(m1.turn hid).ext xH
    obtain ⟨⟨z1,z6⟩,z2,z3,z4,z5,z7⟩:=snocTo mH
    have bsw:=fun lit=>bsPV (lit:=lit) (H:=H) (s:=s) ov
    obtain ⟨w',H3,ea,oW,lW,eW,oneW,kW⟩:=snocG (base:=base) (t:=101) (r:=((s,hv):Int × AVal)) Fc.el101 encV_sc z5 (by omega) (by omega) (by omega)
    have g2:=kW.box z2
    have g3:=kW.box z3
    have x3:SpE h id v silk k3 H3:=eW _ (by rw [List.length_set];omega) z1
    have hfin:MwI h id v silk k3 (H3.set (h.length+1) (pwB sv w')) sv w' xs (vs++[(s,hv)]):=by
     refine ⟨⟨Ext.set x3 (by rw [List.length_set];omega),by rw [List.length_set];omega⟩,by rw [List.getElem?_set_ne (by omega)];exact g2,by rw [List.getElem?_set_self (lt_of_get g3)],Own.setBox (kW.own z4 (by decide)) g3,Own.setBox oW g3,fun x hx=>?_⟩
     rcases List.mem_append.1 hx with hx|hx
     ·obtain ⟨q1,hs',o',r'⟩:=z7 x hx
      exact ⟨q1,hs',Own.setBox (kW.own o' (by decide)) g3,r'⟩
     ·rw [List.mem_singleton] at hx
      rw [hx]
      exact ⟨by simp only;omega,hs,Own.setBox (kW.own (oH.low (by omega)) (by decide)) g3,by omega,fun y hy=>by have:=hHb y hy;omega,hHs⟩
    unfold pwB at z3 g3 hfin
    unfold wvB at gH
    have hsp:=@Nat.succ_ne_zero;repeat' (first|simp (disch:=first|exact dqc|fail) only [go_sem,↓reduceIte,hsp,r51,c0,c6,c7,c10,c41,c42,d0,d6,d7,d41,q0,q2,q6,q7,q14,r42,hlt3,z3,gH,bsw,ea,g3]|refine WP_drw ?_|refine cnd_intro (fun hsp=>?_) fun hsp=>?_)
    exact ⟨agq,by omega,k3,w',vs++[(s,hv)],by omega,hfin,by simp;omega⟩
  ·rintro fr2 K' hA2 ⟨r42,k2,wv,vs,hk2,mW,hvl⟩
   have d0:=hA2 0 rfl
   have d6:=hA2 6 rfl
   have d7:=hA2 7 rfl
   have d41:=hA2 41 rfl
   try simp (disch:=first|exact dqc|fail) only [go_sem,↓reduceIte,q0,q6,q7] at d0 d6 d7 d41
   have hlt2:((z:Int)<(z:Int))=False:=eq_false (by omega)
   obtain ⟨⟨z1,z6⟩,z2,z3,z4,z5,z7⟩:=snocTo mW
   have so:=z4.one
   have wo:=z5.one
   have z2':=z2
   have z3':=z3
   unfold pwB at z2' z3'
   have hsp:=@Nat.succ_ne_zero;repeat' (first|simp (disch:=first|exact dqc|fail) only [go_sem,↓reduceIte,hsp,r42,d0,d6,d7,d41,q0,q2,q6,q7,q14,hlt2,z3',z2']|refine WP_drw ?_|refine cnd_intro (fun hsp=>?_) fun hsp=>?_)
   have xE:SpE h id v silk k2 (K'.set h.length (pwB sv wv)):=Ext.set z1 (by rw [List.length_set];omega)
   have oS:=Own.setBox (k:=pwB sv wv) z4 z2
   have oW:=Own.setBox (k:=pwB sv wv) z5 z2
   have hfin:PwAt (K'.set h.length (pwB sv wv)) (.agg [sv,wv]) ⟨xs.map (·.1),vs.map (·.1)⟩:=by
    refine ⟨sv,wv,rfl,⟨xs,oS.rows (by omega),rfl,fun x hx=>?_⟩,⟨vs,oW.rows (by omega),rfl,fun x hx=>?_⟩⟩
    ·obtain ⟨i,hi,rfl⟩:=List.getElem_of_mem hx
     exact (hSk i _ (List.getElem?_eq_getElem hi)).2
    ·obtain ⟨_,hs,o,r⟩:=z7 x hx
     exact ⟨hs,own_ints (Own.setBox o z2) ⟨by have:=r.1;omega,fun y hy=>by have:=r.2.1 y hy;omega⟩,r⟩
   have hok:POk ⟨xs.map (·.1),vs.map (·.1)⟩:=by
    refine ⟨by simp only [List.length_map];omega,by simp only [List.length_map];omega,fun i u hu=>?_,fun x hx=>?_⟩
    ·obtain ⟨y,hy,rfl⟩:=map_get rfl hu
     exact (hSk i y hy).1
    ·obtain ⟨y,hy,rfl⟩:=List.mem_map.1 hx
     simp only [List.length_map]
     exact (z7 y hy).1
   unfold pwB at xE hfin
   exact ⟨_,k2,hfin,hok,by omega,xE⟩
end F4
end Go.AM
namespace Go.AM
namespace F4
open Go.Proofs.Tryz
attribute [-go_sem] put_ne put_same
attribute [local go_sem ↓] put_if
theorem run_drives {base:Nat} {h:Heap} {v:AVal} {P:Pwr} {x:Int} {k:Nat} (hM:PwAt h v P) (ok:POk P) (hk:k<P.K.length):callL prog raw base (.fn 78 [] []) [v,.int .i64 x,.int .i64 (k:Int)] h=some (.bool (drv P x k),h):=by
 obtain ⟨sv,wv,rfl,hS,hW⟩:=hM
 have os:=hS.one
 have ow:=hW.one
 obtain ⟨s,es⟩:∃ s,P.K[k]?=some s:=⟨_,List.getElem?_eq_getElem hk⟩
 have hs:=ok.s s (List.mem_of_getElem? es)
 have elk:lnK P k=lnA P.U s:=by unfold lnK;rw [List.getD_eq_getElem?_getD,es];rfl
 have hhd:=lnA_head ok.u (show -1≤s by omega) hs.2
 have sG:=hS.ext (.app .refl:Ext h (h++[pwB sv wv]))
 have wG:=hW.ext (.app .refl:Ext h (h++[pwB sv wv]))
 obtain ⟨a1,a2,a3,_⟩:=wG.sh es
 obtain ⟨G,eG⟩:∃ G,G=h++[pwB sv wv]:=⟨_,rfl⟩
 have xG:Ext h G:=by rw [eG];exact .app .refl
 have gG:G[h.length]?=some (pwB sv wv):=by rw [eG];exact get_eq rfl
 rw [← eG] at sG wG a3
 unfold pwB at eG gG
 refine callL_run func78 rfl rfl ?_
 have hsp:=@Nat.succ_ne_zero;repeat' (first|simp (disch:=first|exact dqc|fail) only [go_sem,↓reduceIte,hsp,← eG,gG,a1,a2,a3]|refine WP_drw ?_|refine cnd_intro (fun hsp=>?_) fun hsp=>?_)
 refine WP_count [(6,24)] 0 (lnA P.U s).length (Nat.zero_le _) (fun _ j fr h'=>fr 7=.int .i64 ((lnA P.U s).getD j (-1))∧h'=G∧∀ i,i<j→(lnA P.U s).getD i (-1) ≠ x) ?_ ?_ ?_
 ·exact ⟨by rw [hhd];(simp (disch:=first|exact dqc|fail) only [go_sem,↓reduceIte,Int.natCast_zero];first|done|rfl),rfl,fun i hi=>by omega⟩
 ·rintro j fr H hj0 hj hA ⟨r7,rfl,hP⟩
  have p1:=hA 1 rfl
  have p3:=hA 3 rfl
  try simp (disch:=first|exact dqc|fail) only [go_sem,↓reduceIte] at p1 p3
  obtain ⟨c0,c1,c2⟩:=lnA_at ok.u (show -1≤s by omega) hs.2 hj
  obtain ⟨c,ec⟩:∃ c,c=(lnA P.U s).getD j (-1):=⟨_,rfl⟩
  rw [← ec] at c0 c1 c2 r7
  obtain ⟨n,rfl⟩:=Int.eq_ofNat_of_zero_le c0
  rw [Int.toNat_natCast] at c2
  obtain ⟨u1,u2,u3,_⟩:=sG.up c2
  have t1:((n:Int)=-1)=False:=eq_false (by omega)
  by_cases q:(n:Int)=x
  ·have t2:((n:Int)=x)=True:=eq_true q
   have r:drv P x k=true:=by
    unfold drv
    rw [elk]
    refine decide_eq_true ?_
    rw [← q,ec,List.getD_eq_getElem?_getD,List.getElem?_eq_getElem hj]
    exact List.getElem_mem hj
   rw [r]
   have hsp:=@Nat.succ_ne_zero;repeat' (first|simp (disch:=first|exact dqc|fail) only [go_sem,↓reduceIte,hsp,r7,p1,p3,t1,t2]|refine WP_drw ?_|refine cnd_intro (fun hsp=>?_) fun hsp=>?_)
   exact fB rfl xG
  ·have t2:((n:Int)=x)=False:=eq_false q
   have hsp:=@Nat.succ_ne_zero;repeat' (first|simp (disch:=first|exact dqc|fail) only [go_sem,↓reduceIte,hsp,r7,p1,p3,t1,t2,gG,u1,u2,u3]|refine WP_drw ?_|refine cnd_intro (fun hsp=>?_) fun hsp=>?_)
   refine ⟨agq,fun i hi=>?_⟩
   by_cases e:i=j
   ·rw [e,← ec];exact q
   ·exact hP i (by omega)
 ·rintro fr H hA ⟨r7,rfl,hP⟩
  have p1:=hA 1 rfl
  have p3:=hA 3 rfl
  try simp (disch:=first|exact dqc|fail) only [go_sem,↓reduceIte] at p1 p3
  have e:(lnA P.U s).getD (lnA P.U s).length (-1)=-1:=by rw [List.getD_eq_getElem?_getD,List.getElem?_eq_none (Nat.le_refl _)];rfl
  rw [e] at r7
  have r:drv P x k=false:=by
   unfold drv
   rw [elk]
   refine decide_eq_false fun hm=>?_
   obtain ⟨i,hi,ei⟩:=List.getElem_of_mem hm
   refine hP i hi ?_
   rw [List.getD_eq_getElem?_getD,List.getElem?_eq_getElem hi]
   exact ei
  rw [r]
  have hsp:=@Nat.succ_ne_zero;repeat' (first|simp (disch:=first|exact dqc|fail) only [go_sem,↓reduceIte,hsp,r7,p1,p3]|refine WP_drw ?_|refine cnd_intro (fun hsp=>?_) fun hsp=>?_)
  exact fB rfl xG
theorem run_stp1 {base mb kb:Nat} {h:Heap} {v sv wv:AVal} {P:Pwr} {x:Int} {k:Nat} (ev:v=.agg [sv,wv]) (g1:h[mb]?=some (pwB sv wv)) (g2:h[kb]?=some (intB k)) (hM:PwAt h v P) (ok:POk P) (hk:k<P.K.length) :
  callL prog raw base (.fn 77 [] [.ptr (some ⟨mb,0,0⟩),.ptr (some ⟨kb,0,0⟩)]) [.int .i64 x] h=some (.bool (drv P x k),h):=by
 have e1:=fun base=>run_drives (base:=base) (x:=x) hM ok hk
 rw [ev] at e1
 have l1:=lt_of_get g1
 have l2:=lt_of_get g2
 unfold pwB at g1
 unfold intB at g2
 refine callL_run func77 rfl rfl ?_
 have hsp:=@Nat.succ_ne_zero;repeat' (first|simp (disch:=first|exact dqc|fail) only [go_sem,↓reduceIte,hsp,g1,g2,e1]|refine WP_drw ?_|refine cnd_intro (fun hsp=>?_) fun hsp=>?_)
 exact fB rfl
set_option maxRecDepth 100000 in
set_option maxHeartbeats 4000000 in
theorem run_Stopped {base id k0:Nat} {h0 h:Heap} {v m:AVal} {silk:List Int} {P:Pwr} (hb:base≤h.length) (hbi:base≤id) (hS:SpAt h id v silk k0) (hk:k0≤100000) (x0:Ext h0 h) (hi0:h0.length≤id) (hM:PwAt h0 m P) (ok:POk P) :
  Ret prog raw base (.fn 27 [] []) [.ptr (some ⟨id,0,0⟩),m] h (fun w H=>∃ x y S,w=.tuple [x,y]∧Own encI 108 h.length H x S∧S.length=P.K.length∧(∀ s ∈ S,0≤s∧s≤2)∧Ext h0 H∧One y):=by
 have hid:=lt_of_get hS.1
 have hM0:=hM
 obtain ⟨sv,wv,em,hP,hW⟩:=hM
 have os:=hP.one
 have ow:=hW.one
 have b1:=ok.n
 have b2:=ok.k
 obtain ⟨G,eG⟩:∃ G,G=h++[pwB sv wv]:=⟨_,rfl⟩
 have xG:Ext h G:=by rw [eG];exact .app .refl
 have lG:G.length=h.length+1:=by rw [eG];simp
 have gG:G[h.length]?=some (pwB sv wv):=by rw [eG];exact get_eq rfl
 have hSG:SpAt G id v silk k0:=hS.ext xG
 have x0G:=x0.trans xG
 have on:∀ {k H},SpE G id v silk k H→Ext h0 H:=fun {k H} x=>x.on x0G hi0
 have n1:=(hP.ext x0G).len
 have gG':=gG
 unfold pwB at eG gG
 rw [em]
 refine ret_raw func27 rfl (by kernel_rfl) ?_
 have hsp:=@Nat.succ_ne_zero;repeat' (first|simp (disch:=first|exact dqc|fail) only [go_sem,↓reduceIte,hsp,← eG,gG,n1]|refine WP_drw ?_|refine cnd_intro (fun hsp=>?_) fun hsp=>?_)
 refine WP_count [(6,7),(14,23)] 0 P.U.length (Nat.zero_le _) (fun _ i fr K=>fr 14=.int .i64 (i:Int)∧∃ k' sl xs,fr 6=sl∧(k0≤k'∧k'≤k0+i)∧SpE G id v silk k' K∧Own encI 3 G.length K sl xs∧xs.length≤i∧∀ y ∈ xs,0≤y∧y<(i:Int)) ?_ ?_ ?_
 ·exact ⟨by (simp (disch:=first|exact dqc|fail) only [go_sem,↓reduceIte,Int.natCast_zero];first|done|rfl),k0,.slice none 0 0,[],by simp (disch:=first|exact dqc|fail) only [go_sem,↓reduceIte],by omega,SpE.refl hSG,Own.nil,by simp,by simp⟩
 ·rintro i fr K hi0 hi hAg ⟨r14,k',sl,xs,r6,hk',xK,oK,hxl,hxb⟩
  have q0:=hAg 0 rfl
  have q3:=hAg 3 rfl
  have q4:=hAg 4 rfl
  have q5:=hAg 5 rfl
  have q13:=hAg 13 rfl
  try simp (disch:=first|exact dqc|fail) only [go_sem,↓reduceIte] at q0 q3 q4 q5 q13
  have hlt:((i:Int)<(P.U.length:Int))=True:=eq_true (by omega)
  have so:=oK.one
  have e1:=fun base=>run_once (base:=base) (n:=4) (xK.at hSG) (by omega) (by omega)
  obtain ⟨K1,eK1⟩:∃ K1,K1=K.set id (spB v silk (k'+1)):=⟨_,rfl⟩
  rw [← eK1] at e1
  have xK1:SpE G id v silk (k'+1) K1:=by rw [eK1];exact xK.step (by omega)
  have oK1:Own encI 3 G.length K1 sl xs:=by rw [eK1];exact oK.set (by omega)
  have lK1:=xK1.len
  rcases Bool.eq_false_or_eq_true (decide (up silk k' (4-1)=0)) with qb|qb
  ·rw [qb] at e1
   obtain ⟨w',H3,ea,oV,hle,hE,hV1⟩:=oK1.append1 (y:=(i:Int)) (base:=base) (t:=35) rfl rfl Fc.el35 encI_sc (by omega) (by omega) (by omega)
   have x3:SpE G id v silk (k'+1) H3:=hE _ (by rw [List.length_set];omega) xK1
   have hsp:=@Nat.succ_ne_zero;repeat' (first|simp (disch:=first|exact dqc|fail) only [go_sem,↓reduceIte,hsp,r14,r6,q0,q3,q4,q5,q13,hlt,e1,ea]|refine WP_drw ?_|refine cnd_intro (fun hsp=>?_) fun hsp=>?_)
   refine ⟨agq,by omega,k'+1,w',xs++[(i:Int)],rfl,by omega,x3,oV,by simp;omega,fun y hy=>?_⟩
   rcases List.mem_append.1 hy with hy|hy
   ·have:=hxb y hy;omega
   ·rw [List.mem_singleton] at hy;omega
  ·rw [qb] at e1
   have hsp:=@Nat.succ_ne_zero;repeat' (first|simp (disch:=first|exact dqc|fail) only [go_sem,↓reduceIte,hsp,r14,r6,q0,q3,q4,q5,q13,hlt,e1]|refine WP_drw ?_|refine cnd_intro (fun hsp=>?_) fun hsp=>?_)
   exact ⟨agq,by omega,k'+1,sl,xs,rfl,by omega,xK1,oK1,by omega,fun y hy=>by have:=hxb y hy;omega⟩
 ·rintro fr K hAg ⟨r14,k',sl,xs,r6,hk',xK,oK,hxl,hxb⟩
  have q0:=hAg 0 rfl
  have q3:=hAg 3 rfl
  have q4:=hAg 4 rfl
  have q5:=hAg 5 rfl
  have q13:=hAg 13 rfl
  try simp (disch:=first|exact dqc|fail) only [go_sem,↓reduceIte] at q0 q3 q4 q5 q13
  have hlt:((P.U.length:Int)<(P.U.length:Int))=False:=eq_false (by omega)
  have so:=oK.one
  have gK:=xK.get (by omega) gG
  have nK:=(hW.ext (on xK)).len
  have lK:=xK.len
  have hsp:=@Nat.succ_ne_zero;repeat' (first|simp (disch:=first|exact dqc|fail) only [go_sem,↓reduceIte,hsp,r14,r6,q0,q3,q4,q5,q13,hlt,gK,nK]|refine WP_drw ?_|refine cnd_intro (fun hsp=>?_) fun hsp=>?_)
  refine WP_count [(8,10),(27,39)] 0 P.K.length (Nat.zero_le _) (fun _ j fr K'=>fr 27=.int .i64 (j:Int)∧∃ k2 ov S,fr 8=ov∧(k'≤k2∧k2≤k'+j)∧SpE G id v silk k2 K'∧Own encI 3 G.length K' sl xs∧Own encI 108 G.length K' ov S∧S.length=j∧∀ y ∈ S,0≤y∧y≤2) ?_ ?_ ?_
  ·exact ⟨by (simp (disch:=first|exact dqc|fail) only [go_sem,↓reduceIte,Int.natCast_zero];first|done|rfl),k',.slice none 0 0,[],by simp (disch:=first|exact dqc|fail) only [go_sem,↓reduceIte],by omega,xK,oK,Own.nil,rfl,by simp⟩
  ·rintro j fr2 K' hj0 hj hA2 ⟨r27,k2,ov,S,r8,hk2,xK',oS,oV,hSl,hSb⟩
   have d0:=hA2 0 rfl
   have d3:=hA2 3 rfl
   have d4:=hA2 4 rfl
   have d5:=hA2 5 rfl
   have d6:=hA2 6 rfl
   have d26:=hA2 26 rfl
   try simp (disch:=first|exact dqc|fail) only [go_sem,↓reduceIte,q0,q3,q4,q5] at d0 d3 d4 d5 d6 d26
   have hlt2:((j:Int)<(P.K.length:Int))=True:=eq_true (by omega)
   have oo:=oV.one
   have gK':=xK'.get (by omega) gG'
   have lK':=xK'.len
   obtain ⟨K1,eK1⟩:∃ K1,K1=K'++[intB j]:=⟨_,rfl⟩
   have x1:Ext K' K1:=by rw [eK1];exact .app .refl
   have xK1:=xK'.ext x1
   have iS:Ints K1 sl xs:=own_ints (oS.ext x1) ⟨by omega,fun y hy=>by have:=hxb y hy;omega⟩
   have e0:=fun base=>anyF_I (base:=base) (h:=K1) (g:=.fn 77 [] [.ptr (some ⟨h.length,0,0⟩),.ptr (some ⟨K'.length,0,0⟩)]) (fun i=>drv P i j) iS (fun base x hx=>run_stp1 em (x1.get gK') (by rw [eK1];exact get_eq rfl) (hM0.ext (on xK1)) ok hj)
   have e1:=fun base=>run_once (base:=base) (n:=4) (xK1.at hSG) (by omega) (by omega)
   obtain ⟨K2,eK2⟩:∃ K2,K2=K1.set id (spB v silk (k2+1)):=⟨_,rfl⟩
   rw [← eK2] at e1
   have xK2:SpE G id v silk (k2+1) K2:=by rw [eK2];exact xK1.step (by omega)
   have oS2:Own encI 3 G.length K2 sl xs:=by rw [eK2];exact (oS.ext x1).set (by omega)
   have oV2:Own encI 108 G.length K2 ov S:=by rw [eK2];exact (oV.ext x1).set (by omega)
   have l2:=xK2.len
   have bsl:∀ {lit:Bool} {y:Int} {H:Heap},lit=true→bsA prog lit H 105 1 [(0,.int .i64 y)]=some (.vals [.int .i64 y],H):=fun {lit y H} hl=>bs_lit hl Fc.el105
   unfold intB at eK1
   have key:∀ y:Int,0≤y∧y≤2→∃ w' H3,appendA prog base K2 105 ov (.vals [.int .i64 y])=some (w',H3)∧One w'∧∃ k3 ov' S',w'=ov'∧(k'≤k3∧k3≤k'+(j+1))∧SpE G id v silk k3 H3∧Own encI 3 G.length H3 sl xs∧Own encI 108 G.length H3 ov' S'∧S'.length=j+1∧∀ y ∈ S',0≤y∧y≤2:=by
    intro y hy
    obtain ⟨w',H3,ea,oV3,hle,hE,hV1,kW⟩:=oV2.append1X (P:=prog) (y:=y) (a:=.int .i64 y) (base:=base) (t:=105) rfl rfl Fc.el105 encI_sc (by omega) (by omega) (by omega)
    have kW:KeepO encI 108 K2 H3:=kW
    refine ⟨w',H3,ea,hV1,k2+1,w',S++[y],rfl,by omega,hE _ (by rw [List.length_set];omega) xK2,kW.own oS2 (by decide),oV3,by simp;omega,fun z hz=>?_⟩
    rcases List.mem_append.1 hz with hz|hz
    ·exact hSb z hz
    ·rw [List.mem_singleton] at hz;rw [hz];exact hy
   rcases Bool.eq_false_or_eq_true (decide (up silk k2 (4-1)=0)) with qb|qb
   ·rw [qb] at e1
    obtain ⟨w',H3,ea,hV1,rest⟩:=key 0 (by omega)
    cases qa:(xs.any fun i=>drv P i j) with
    | true =>
     rw [qa] at e0
     have hsp:=@Nat.succ_ne_zero;repeat' (first|simp (disch:=first|exact dqc|fail) only [go_sem,↓reduceIte,hsp,r27,r8,d0,d3,d4,d5,d6,d26,q0,q3,q4,q5,q13,hlt2,r6,← eK1,e0,e1,bsl,ea]|refine WP_drw ?_|refine cnd_intro (fun hsp=>?_) fun hsp=>?_)
     exact ⟨agq,by omega,rest⟩
    | false =>
     rw [qa] at e0
     have hsp:=@Nat.succ_ne_zero;repeat' (first|simp (disch:=first|exact dqc|fail) only [go_sem,↓reduceIte,hsp,r27,r8,d0,d3,d4,d5,d6,d26,q0,q3,q4,q5,q13,hlt2,r6,← eK1,e0,e1,bsl,ea]|refine WP_drw ?_|refine cnd_intro (fun hsp=>?_) fun hsp=>?_)
     exact ⟨agq,by omega,rest⟩
   ·rw [qb] at e1
    cases qa:(xs.any fun i=>drv P i j) with
    | true =>
     obtain ⟨w',H3,ea,hV1,rest⟩:=key 2 (by omega)
     rw [qa] at e0
     have hsp:=@Nat.succ_ne_zero;repeat' (first|simp (disch:=first|exact dqc|fail) only [go_sem,↓reduceIte,hsp,r27,r8,d0,d3,d4,d5,d6,d26,q0,q3,q4,q5,q13,hlt2,r6,← eK1,e0,e1,bsl,ea]|refine WP_drw ?_|refine cnd_intro (fun hsp=>?_) fun hsp=>?_)
     exact ⟨agq,by omega,rest⟩
    | false =>
     obtain ⟨w',H3,ea,hV1,rest⟩:=key 1 (by omega)
     rw [qa] at e0
     have hsp:=@Nat.succ_ne_zero;repeat' (first|simp (disch:=first|exact dqc|fail) only [go_sem,↓reduceIte,hsp,r27,r8,d0,d3,d4,d5,d6,d26,q0,q3,q4,q5,q13,hlt2,r6,← eK1,e0,e1,bsl,ea]|refine WP_drw ?_|refine cnd_intro (fun hsp=>?_) fun hsp=>?_)
     exact ⟨agq,by omega,rest⟩
  ·rintro fr2 K' hA2 ⟨r27,k2,ov,S,r8,hk2,xK',oS,oV,hSl,hSb⟩
   have d0:=hA2 0 rfl
   have d3:=hA2 3 rfl
   have d4:=hA2 4 rfl
   have d5:=hA2 5 rfl
   have d6:=hA2 6 rfl
   have d26:=hA2 26 rfl
   try simp (disch:=first|exact dqc|fail) only [go_sem,↓reduceIte,q0,q3,q4,q5] at d0 d3 d4 d5 d6 d26
   have hlt2:((P.K.length:Int)<(P.K.length:Int))=False:=eq_false (by omega)
   have oo:=oV.one
   have hsp:=@Nat.succ_ne_zero;repeat' (first|simp (disch:=first|exact dqc|fail) only [go_sem,↓reduceIte,hsp,r27,r8,d0,d3,d4,d5,d6,d26,q0,q3,q4,q5,q13,r6,hlt2]|refine WP_drw ?_|refine cnd_intro (fun hsp=>?_) fun hsp=>?_)
   exact ⟨ov,sl,S,rfl,oV.low (by omega),hSl,hSb,on xK',so⟩
end F4
end Go.AM
namespace Go.AM
namespace F4
open Go.Proofs.Tryz
attribute [-go_sem] put_ne put_same
attribute [local go_sem ↓] put_if
def nmL (l t:List Int):List Int:=l.map fun x=>t.getD x.toNat 0
theorem run_named {base:Nat} {h:Heap} {lv tv:AVal} {l t:List Int} (hb:base≤h.length) (hI:Ints h lv l) (hT:Ints h tv t) (hl:∀ x ∈ l,0≤x∧x<(t.length:Int)) (hll:l.length≤1000) :
  Ret prog raw base (.fn 30 [] []) [lv,tv] h (fun w H=>Ext h H∧∃ y,w=.tuple [y,.bool true]∧Own encI 3 h.length H y (nmL l t)):=by
 have lo:=hI.one
 have to:=hT.one
 refine ret_raw func30 rfl (by kernel_rfl) ?_
 have hsp:=@Nat.succ_ne_zero;repeat' (first|simp (disch:=first|exact dq|fail) only [go_sem,↓reduceIte,hsp,lenI hI]|refine WP_drw ?_|refine cnd_intro (fun hsp=>?_) fun hsp=>?_)
 refine WP_count [(4,8),(11,30)] 0 l.length (Nat.zero_le _) (fun _ n fr h'=>fr 11=.int .i64 (n:Int)∧Ext h h'∧∃ v,fr 6=v∧Own encI 3 h.length h' v (nmL (l.take n) t)) ?_ ?_ ?_
 ·exact ⟨by (simp (disch:=first|exact dq|fail) only [go_sem,↓reduceIte,Int.natCast_zero];first|done|rfl),.refl,.slice none 0 0,by simp (disch:=first|exact dq|fail) only [go_sem,↓reduceIte],by simp [nmL];exact Own.nil⟩
 ·rintro n fr H hn0 hn hA ⟨r11,xH,v,r6,hV⟩
  have p1:=hA 1 rfl
  have p9:=hA 9 rfl
  have p10:=hA 10 rfl
  try simp (disch:=first|exact dq|fail) only [go_sem,↓reduceIte] at p1 p9 p10
  have hlt:((n:Int)<(l.length:Int))=True:=eq_true (by omega)
  have lH:=xH.len
  have iH:=hI.ext xH
  have iT:=hT.ext xH
  have d1:=adrI (i:=(n:Int)) (by omega) iH (by omega)
  rw [Int.toNat_natCast] at d1
  have d2:=loadI iH (i:=n) hn
  obtain ⟨x,ex⟩:∃ x,x=l.getD n 0:=⟨_,rfl⟩
  have hx:=hl x (by rw [ex];exact getD_mem hn)
  rw [← ex] at d2
  obtain ⟨k,rfl⟩:=Int.eq_ofNat_of_zero_le hx.1
  have t1:((k:Int)<0)=False:=eq_false (by omega)
  have t2:((k:Int) ≥ (t.length:Int))=False:=eq_false (by omega)
  have nT:=lenI iT
  have d3:=adrI (i:=(k:Int)) (by omega) iT (by omega)
  rw [Int.toNat_natCast] at d3
  have d4:=loadI iT (i:=k) (by omega)
  have etk:nmL (l.take (n+1)) t=nmL (l.take n) t++[t.getD k 0]:=by
   unfold nmL
   rw [List.take_add_one,List.getElem?_eq_getElem hn,List.map_append]
   rw [List.getD_eq_getElem?_getD,List.getElem?_eq_getElem hn] at ex
   simp only [Option.getD_some] at ex
   simp [← ex]
  have hvl:(nmL (l.take n) t).length≤l.length:=by unfold nmL;rw [List.length_map,List.length_take];omega
  obtain ⟨v',H3,ea,oV,hle,hE,hV1⟩:=hV.append1 (y:=t.getD k 0) (base:=base) (t:=35) rfl rfl Fc.el35 encI_sc hb lH (by omega)
  have hsp:=@Nat.succ_ne_zero;repeat' (first|simp (disch:=first|exact dq|fail) only [go_sem,↓reduceIte,hsp,r11,r6,p1,p9,p10,hlt,d1,d2,t1,t2,nT,d3,d4,ea]|refine WP_drw ?_|refine cnd_intro (fun hsp=>?_) fun hsp=>?_)
  exact ⟨agq,by omega,hE h (Nat.le_refl _) xH,v',rfl,by rw [etk];exact oV⟩
 ·rintro fr H hA ⟨r11,xH,v,r6,hV⟩
  have p1:=hA 1 rfl
  have p9:=hA 9 rfl
  have p10:=hA 10 rfl
  try simp (disch:=first|exact dq|fail) only [go_sem,↓reduceIte] at p1 p9 p10
  have hlt:((l.length:Int)<(l.length:Int))=False:=eq_false (by omega)
  rw [List.take_length] at hV
  have v1:=hV.one
  have hsp:=@Nat.succ_ne_zero;repeat' (first|simp (disch:=first|exact dq|fail) only [go_sem,↓reduceIte,hsp,r11,r6,p1,p9,p10,hlt]|refine WP_drw ?_|refine cnd_intro (fun hsp=>?_) fun hsp=>?_)
  exact ⟨xH,v,rfl,hV⟩
section
variable {P:Pwr} {S:List Int}
theorem no_law (hM:MOkS P S) (hn:¬ ∃ t,XpA (lomO P S) t):(fewM (lomO P S)).2=7∧(mstM (lomO P S)).2=7∧(pckM (lomO P S)).2=7∧(clsM (lomO P S)).2=0:=by
 have hc:=lom_chk hM
 have ht:=tolE_no hc hn (b:=false)
 rw [if_neg (by simp)] at ht
 refine ⟨?_,?_,?_,(clsM_least hc hn).1⟩
 ·unfold fewM;rw [ht];rfl
 ·unfold mstM;rw [ht];rfl
 ·unfold pckM;rw [ht];rfl
theorem lft_ok (hM:MOkS P S) {t:List Brk} (ht:truOk (lomO P S) t):(lftM (lomO P S) t).2=0:=by
 have hc:=lom_chk hM
 have h2:=truM_iff.2 ht
 unfold lftM
 rw [if_neg (by rw [hc];simp),if_neg (by rw [h2];simp)]
theorem lom_ok (hM:MOkS P S):LomOk (lomO P S):=by
 have ok:=hM.ok
 have h1:=ok.n
 have h2:=ok.k
 have hle:(shfO P).length≤P.U.length:=by
  have:=(List.filter_sublist (p:=fun s=>decide (0<(ribO P s).length)) (l:=upto P.U.length)).length_le
  rwa [upto_len] at this
 have hwl:(wvrO S).length≤S.length:=by
  have:=(List.filter_sublist (p:=fun k:Int=>decide (S.getD k.toNat 0 ≠ 0)) (l:=upto S.length)).length_le
  rwa [upto_len] at this
 have hr:∀ s,(ribO P s).length≤P.K.length:=fun s=>by
  have:=(List.filter_sublist (p:=fun k:Int=>drv P s k.toNat) (l:=upto P.K.length)).length_le
  rwa [upto_len] at this
 have h3:=hM.len
 refine ⟨fun p hp=>?_,by rw [lom_ps];omega,by rw [lom_ss];omega,fun p _=>Int.le_refl _,fun p hp=>?_⟩
 ·obtain ⟨s,_,rfl⟩:=List.mem_map.1 hp
  exact ⟨by have:=hr s;show (ribO P s).length<_;omega,fun y hy=>by have:=(ribO_mem.1 hy).1;omega⟩
 ·obtain ⟨s,_,rfl⟩:=List.mem_map.1 hp
  have:=hr s
  show (ribO P s).length≤_
  omega
end
end F4
end Go.AM
