/-
  LaceTurned, walked.
-/
import Derived.Test.YteanoaejoddnbaaU18
set_option linter.unusedSimpArgs false
set_option linter.unusedVariables false
namespace Go.AM
open Go.Proofs.Try
attribute [-go_sem] put_ne put_same
attribute [local go_sem ↓] put_if
theorem OffV.nil {i:Nat}:OffV i (.slice none 0 0):=fun r n c q=>by cases q
theorem encM_flat0 {x:Int × Int}:flat encM [x]=[.int .i64 x.1,.int .i64 x.2]:=rfl
structure MvT (b:Nat) (K:Heap) (tv av:AVal) (tL aL:List (Int × Int)):Prop where
 t:Own encM 36 b K tv tL
 a:Own encM 36 b K av aL
 ne:∀ i,i<K.length→OffV i tv ∨ OffV i av
theorem offV_low {b i:Nat} {h:Heap} {v:AVal} {l:List (Int × Int)} (h1:Own encM 36 b h v l) (hi:h.length≤i):OffV i v:=by
 rcases h1 with ⟨rfl,_⟩|⟨id,ver,rfl,g,_,_⟩
 ·exact .nil
 ·intro r n c q
  cases q
  have:=lt_of_get g
  simp only;omega
theorem MvT.ext {b:Nat} {K K':Heap} {tv av:AVal} {tL aL:List (Int × Int)} (x:MvT b K tv av tL aL) (h:Ext K K'):MvT b K' tv av tL aL:=by
 refine ⟨x.t.ext h,x.a.ext h,fun i hi=>?_⟩
 by_cases c:i<K.length
 ·exact x.ne i c
 ·exact .inl (offV_low x.t (by omega))
theorem MvT.growT {b:Nat} {K K':Heap} {tv av tv':AVal} {tL aL tL':List (Int × Int)} (x:MvT b K tv av tL aL) (g:GrownV K tv K' tv') (o:Own encM 36 b K' tv' tL'):MvT b K' tv' av tL' aL:=by
 refine ⟨o,g.own x.a x.ne,fun i hi=>?_⟩
 by_cases c:i<K.length
 ·exact (x.ne i c).imp (g.off i c) id
 ·exact .inr (offV_low x.a (by omega))
theorem MvT.growA {b:Nat} {K K':Heap} {tv av av':AVal} {tL aL aL':List (Int × Int)} (x:MvT b K tv av tL aL) (g:GrownV K av K' av') (o:Own encM 36 b K' av' aL'):MvT b K' tv av' tL aL':=by
 refine ⟨g.own x.t fun i hi=>(x.ne i hi).symm,o,fun i hi=>?_⟩
 by_cases c:i<K.length
 ·exact (x.ne i c).imp id (g.off i c)
 ·exact .inl (offV_low x.t (by omega))
theorem MvT.setBox {b:Nat} {K:Heap} {tv av:AVal} {tL aL:List (Int × Int)} {k:ABlk} {a:Nat} {c:List AVal} {t:TypeId} {ro:Bool} {u:Nat} (x:MvT b K tv av tL aL) (hg:K[a]?=some ⟨.cells c t false ro,u⟩):MvT b (K.set a k) tv av tL aL :=
 ⟨x.t.setBox hg,x.a.setBox hg,fun i hi=>x.ne i (by rw [List.length_set] at hi;exact hi)⟩
theorem wrap_mul {a b:Nat} (ha:a≤7) (hb:b≤7):IntKind.i64.wrap ((a:Int) * (b:Int))=((a * b:Nat):Int):=by
 have h:a * b≤7 * 7:=Nat.mul_le_mul ha hb
 rw [← Int.natCast_mul,IntKind.wrap_i64]
 omega
theorem ord_rev {n:Nat} {o:List Int} (h:Ord n o):Ord n o.reverse:=ord_perm h (List.reverse_perm o)
theorem stL92 {base:Nat} {l:List Oper} {s:St} {Q:AExit→St→Prop}:WP prog raw base (.region 13 l.toArray true) s Q=WPS prog raw base (.region 13 l.toArray true) s Q:=WP_stop
attribute [local go_sem ↓ 3000] stL92
set_option maxRecDepth 100000 in
set_option maxHeartbeats 8000000 in
theorem run_LaceTurned {base:Nat} {h:Heap} {v0 v1:AVal} {l0 l1:List Int} (hB0:Bytes h v0 l0) (hB1:Bytes h v1 l1) :
  callL prog raw base (.fn 3 [] []) [v0,v1] h=some (.bool true,h):=by
 have o0:=hB0.one
 have o1:=hB1.one
 obtain ⟨G2,n,H,w,o,e1,e2,e3,e4,R⟩:=run_risn hB0 hB1
 obtain ⟨hbd,xH,hO,hord,hHl,hQ⟩:=R
 obtain ⟨a1,a2,-,-,-,-,-,a8⟩:=ord_all5 hbd hord
 obtain ⟨-,b2,-,-,-,-,-,b8⟩:=ord_all5 hbd (ord_rev hord)
 have hon:=hord.1
 have ow:=hO.one
 have hsm:Small o:=ord_small hord (by omega)
 have iO:=ownE_ints hO hsm
 obtain ⟨bv,H1,e5,x1,oB⟩:=run_cloneE (base:=h.length) iO hsm
 obtain ⟨id,ver,rfl,gB,hid⟩:=oB.pos (by omega)
 rw [rowE_iB] at gB
 have hl1:=x1.len
 have e6:=run_reverse (base:=h.length) gB (by omega)
 rw [hon] at e5 e6
 obtain ⟨H2,eH2⟩:∃ H2,H2=H1.set id (iB o.reverse ver):=⟨_,rfl⟩
 rw [← eH2] at e6
 have hidl:=lt_of_get gB
 have l2:H2.length=H1.length:=by rw [eH2,List.length_set]
 have x2:Ext H H2:=by rw [eH2];exact x1.set hid
 have gB2:H2[id]?=some (iB o.reverse ver):=by rw [eH2,List.getElem?_set_self hidl]
 have hsr:Small o.reverse:=ord_small (ord_rev hord) (by omega)
 have hrl:o.reverse.length=n:=by rw [List.length_reverse,hon]
 have oB2:Own encI 3 H.length H2 (.slice (some ⟨id,ver,0⟩) n n) o.reverse:=.inr ⟨id,ver,by rw [hrl],by rw [rowE_iB];exact gB2,hid,by rw [hrl];omega⟩
 have iB2:Ints H2 (.slice (some ⟨id,ver,0⟩) n n) o.reverse:=own_ints oB2 hsr
 obtain ⟨_,H3,e7,x3,ra,rfl,oRa⟩:=run_Rise (base:=h.length) (h:=H2) (by omega) (iO.ext x2)
 rw [a2] at e7 oRa
 have oRa:Own encI 3 H2.length H3 ra (riseL o):=oRa
 have l3:=x3.len
 have ora:=oRa.one
 obtain ⟨_,H4,e8,x4,rb,rfl,oRb⟩:=run_Rise (base:=h.length) (h:=H3) (by omega) (iB2.ext x3)
 rw [b2] at e8 oRb
 have oRb:Own encI 3 H3.length H4 rb (riseL o.reverse):=oRb
 have l4:=x4.len
 have orb:=oRb.one
 have hra:(riseL o).length≤n:=by omega
 have hrb:(riseL o.reverse).length≤n:=by omega
 have lra:=own_len (oRa.ext x4) Fc.el25 (by omega)
 have lrb:=own_len oRb Fc.el25 (by omega)
 have hturn:=rise_turned (ord_dist hord)
 rw [hon] at hturn
 obtain ⟨p,ep⟩:∃ p,p=(riseL o).length * (riseL o.reverse).length:=⟨_,rfl⟩
 have hmul:=wrap_mul (a:=(riseL o).length) (b:=(riseL o.reverse).length) (by omega) (by omega)
 rw [← ep] at hturn hmul
 have x24:Ext H H4:=(x2.trans x3).trans x4
 have iO4:=iO.ext x24
 have lw4:=lenI iO4
 rw [hon] at lw4
 have t3:((p:Int)<(n:Int))=False:=eq_false (by omega)
 have SQ:SpAt H4 (h.length+1) v1 l1 0:=⟨x24.get hQ.1,hQ.2.1.ext x24,hQ.2.2⟩
 have um:=fun base=>run_upto (base:=base) (n:=9) SQ (by omega) (by omega)
 have ub:=up_bd (silk:=l1) (k:=0) (n:=9) (by omega)
 obtain ⟨m,em⟩:=Int.eq_ofNat_of_zero_le ub.1
 rw [em] at um ub
 obtain ⟨H5,eH5⟩:∃ H5,H5=H4.set (h.length+1) (spB v1 l1 (0+1)):=⟨_,rfl⟩
 rw [← eH5] at um
 have lid:=lt_of_get SQ.1
 have s5:SpE H4 (h.length+1) v1 l1 1 H5:=by
  have:=(SpE.refl SQ).step (k':=0+1) lid
  rw [← eH5] at this;exact this
 have l5:H5.length=H4.length:=by rw [eH5,List.length_set]
 have hth:1<n→3≤(riseL o).length+(riseL o.reverse).length:=fun q=>rise_three (ord_dist hord) (by omega)
 refine callL_run func3 rfl rfl ?_
 by_cases c1:1<n
 ·have t1:((n:Int) > 1)=True:=eq_true (by omega)
  have t2:(((riseL o).length:Int)+((riseL o.reverse).length:Int)<3)=False:=eq_false (by have:=hth c1;omega)
  have hsp:=@Nat.succ_ne_zero;repeat' (first|simp (disch:=first|exact dqc|fail) only [go_sem,↓reduceIte,hsp,e1,e2,e3,e4,e5,e6,e7,e8,eq_self,ne_eq,not_true,decide_false,lw4,lra,lrb,t1,t2,hmul,t3,um]|refine WP_drw ?_|refine cnd_intro (fun hsp=>?_) fun hsp=>?_)
  refine WP_count [(13,15),(70,95)] 0 m (Nat.zero_le _) (fun _ i fr X=>fr 70=.int .i64 (i:Int)∧∃ tv av ms,fr 13=tv∧fr 14=av∧SpE H4 (h.length+1) v1 l1 (1+2 * i) X∧MvT H4.length X tv av ms (ms.map fun m=>(m.2,m.1)).reverse∧ms.length=i∧∀ m ∈ ms,(0≤m.1∧m.1<(n:Int))∧(0≤m.2∧m.2<(n:Int))) ?_ ?_ ?_
  ·exact ⟨by (simp (disch:=first|exact dqc|fail) only [go_sem,↓reduceIte,Int.natCast_zero];first|done|rfl),.slice none 0 0,.slice none 0 0,[],by simp (disch:=first|exact dqc|fail) only [go_sem,↓reduceIte],by simp (disch:=first|exact dqc|fail) only [go_sem,↓reduceIte],s5,⟨Own.nil,Own.nil,fun _ _=>.inl .nil⟩,rfl,by simp⟩
  ·rintro i fr X hi0 hi hA ⟨r70,tv,av,ms,r13,r14,xX,M,hml,hmb⟩
   have q4:=hA 4 rfl
   have q6:=hA 6 rfl
   have q7:=hA 7 rfl
   have q69:=hA 69 rfl
   try simp (disch:=first|exact dqc|fail) only [go_sem,↓reduceIte] at q4 q6 q7 q69
   have hlt:((i:Int)<(m:Int))=True:=eq_true (by omega)
   have otv:=M.t.one
   have oav:=M.a.one
   have lX:=xX.len
   have hSX:=xX.at SQ
   have oWX:OwnE encI 3 (h.length+2) X w o:=((hO.ext x24).setBox SQ.1).ext xX
   have iWX:Ints X w o:=ownE_ints oWX hsm
   have lwX:=lenI iWX
   rw [hon] at lwX
   have u1:=up_bd (silk:=l1) (k:=1+2 * i) (n:=(n:Int)-1) (by omega)
   have u2:=up_bd (silk:=l1) (k:=1+2 * i+1) (n:=(n:Int)-1) (by omega)
   have f1:=fun base=>run_upto (base:=base) (n:=(n:Int)-1) hSX (by omega) (by omega)
   obtain ⟨K3,eK3⟩:∃ K3,K3=X.set (h.length+1) (spB v1 l1 (1+2 * i+1)):=⟨_,rfl⟩
   have y3:=xX.step (k':=1+2 * i+1) lid
   rw [← eK3] at y3 f1
   have hS3:=y3.at SQ
   have f2:=fun base=>run_upto (base:=base) (n:=(n:Int)-1) hS3 (by omega) (by omega)
   obtain ⟨K4,eK4⟩:∃ K4,K4=K3.set (h.length+1) (spB v1 l1 (1+2 * i+1+1)):=⟨_,rfl⟩
   have y4:=y3.step (k':=1+2 * i+1+1) lid
   rw [← eK4] at y4 f2
   have oW3:OwnE encI 3 (h.length+2) K3 w o:=((hO.ext x24).setBox SQ.1).ext y3
   have iW3:Ints K3 w o:=ownE_ints oW3 hsm
   have lw3:=lenI iW3
   rw [hon] at lw3
   generalize up l1 (1+2 * i) ((n:Int)-1)=a at u1 f1
   generalize up l1 (1+2 * i+1) ((n:Int)-1)=b at u2 f2
   have l3':K3.length=X.length:=by rw [eK3,List.length_set]
   have l4':K4.length=X.length:=by rw [eK4,List.length_set,l3']
   have M3:MvT H4.length K3 tv av ms (ms.map fun m=>(m.2,m.1)).reverse:=by rw [eK3];exact M.setBox hSX.1
   have M4:MvT H4.length K4 tv av ms (ms.map fun m=>(m.2,m.1)).reverse:=by rw [eK4];exact M3.setBox hS3.1
   obtain ⟨K5,eK5⟩:∃ K5,K5=K4++[mvB a b]:=⟨_,rfl⟩
   have gm5:K5[K4.length]?=some (mvB a b):=by rw [eK5];exact get_eq rfl
   have z5:Ext K4 K5:=by rw [eK5];exact .app .refl
   have l5':K5.length=K4.length+1:=by rw [eK5];simp
   obtain ⟨K6,eK6⟩:∃ K6,K6=K5++[rowE encM 36 [(a,b)] 0]:=⟨_,rfl⟩
   have z6:Ext K5 K6:=by rw [eK6];exact .app .refl
   have l6':K6.length=K5.length+1:=by rw [eK6];simp
   have M6:=(M4.ext z5).ext z6
   obtain ⟨tv',K7,ea,oT,eT,gT⟩:=M6.t.growR (P:=prog) (base:=h.length) (x:=.slice (some ⟨K5.length,0,0⟩) 1 1) (m:=[(a,b)]) (t:=33) (Rows.own (by rw [eK6];exact get_eq rfl) rfl (by simp)) Fc.el33 encM_sc (by omega) (by omega) (by simp) (by simp;omega)
   have M7:=M6.growT gT oT
   have otv':=M7.t.one
   have l7':=gT.len
   obtain ⟨K8,eK8⟩:∃ K8,K8=K7++[rowE encM 36 [(b,a)] 0]:=⟨_,rfl⟩
   have z8:Ext K7 K8:=by rw [eK8];exact .app .refl
   have l8':K8.length=K7.length+1:=by rw [eK8];simp
   have M8:=M7.ext z8
   obtain ⟨av',K9,ei,oA,eA,gA⟩:=run_insM (base:=h.length) (id2:=K7.length) (x:=(b,a)) M8.a (by rw [eK8];exact get_eq rfl) (offV_low M7.a (Nat.le_refl _)) (by omega) (by omega) (by simp;omega)
   have M9:=M8.growA gA oA
   have oav':=M9.a.one
   have g7:K7[K4.length]?=some (mvB a b):=gT.keep _ _ (z6.get gm5) (offV_low M4.t (Nat.le_refl _))
   have fin:SpE H4 (h.length+1) v1 l1 (1+2 * (i+1)) K9:=by
    have hL:(H4.set (h.length+1) (spB v1 l1 (1+2 * i+1+1))).length≤H4.length:=by rw [List.length_set];exact Nat.le_refl _
    exact eA _ hL ((eT _ hL ((y4.ext z5).ext z6)).trans z8)
   have gm6:=z6.get gm5
   have g8:=z8.get g7
   unfold mvB at eK5 gm5 gm6 g7 g8
   have hsp:=@Nat.succ_ne_zero;repeat' (first|simp (disch:=first|exact dqc|fail) only [go_sem,↓reduceIte,hsp,r70,r13,r14,q4,q6,q7,q69,hlt,lwX,f1,lw3,f2,← eK5]|refine WP_drw ?_|refine cnd_intro (fun hsp=>?_) fun hsp=>?_)
   refine WPS_go ?_
   refine WP_wild [⟨6,3,88,⟨K4.length,0,1⟩,.int .i64 b,11⟩,⟨8,3,90,⟨K4.length,0,0⟩,.int .i64 a,11⟩] (by kernel_rfl) (by kernel_rfl) (by kernel_rfl) ⟨refsLow_int,refsLow_int,trivial⟩ fun K0 hK=>?_
   iterate 14
    rw [TRS_cons]
    refine ⟨by first|(simp (disch:=first|exact dqc|fail) only [go_sem,↓reduceIte,r13,r14,gm5,bsM1,← eK6,gm6,ea,g7,← eK8,g8,ei,ldsQ_cons,ldsQ_nil,grdQ_cons,grdQ_nil,if_true,Nat.reduceLeDiff];done)|exact trivial,?_⟩
    simp (disch:=first|exact dqc|fail) only [go_sem,↓reduceIte,r13,r14,gm5,bsM1,← eK6,gm6,ea,g7,← eK8,g8,ei]
   rw [TRS_nil]
   refine ⟨by first|(simp (disch:=first|exact dqc|fail) only [go_sem,↓reduceIte,r13,r14,gm5,bsM1,← eK6,gm6,ea,g7,← eK8,g8,ei,ldsQ_cons,ldsQ_nil,grdQ_cons,grdQ_nil,if_true,Nat.reduceLeDiff];done)|exact trivial,?_⟩
   subst hK
   have hsp:=@Nat.succ_ne_zero;repeat' (first|simp (disch:=first|exact dqc|fail) only [go_sem,↓reduceIte,hsp,r70,q4,q6,q7,q69]|refine WP_drw ?_|refine cnd_intro (fun hsp=>?_) fun hsp=>?_)
   refine ⟨agq,by omega,tv',av',ms++[(a,b)],by simp (disch:=first|exact dqc|fail) only [go_sem,↓reduceIte],by simp (disch:=first|exact dqc|fail) only [go_sem,↓reduceIte],fin,?_,by simp [hml],fun x hx=>?_⟩
   ·have:((ms++[(a,b)]).map fun m=>(m.2,m.1)).reverse=(b,a) :: (ms.map fun m=>(m.2,m.1)).reverse:=by simp
    rw [this];exact M9
   ·rcases List.mem_append.1 hx with hx|hx
    ·exact hmb x hx
    ·rw [List.mem_singleton] at hx
     subst hx
     exact ⟨by simp only;omega,by simp only;omega⟩
  ·rintro fr X hA ⟨r70,tv,av,ms,r13,r14,xX,M,hml,hmb⟩
   have q4:=hA 4 rfl
   have q6:=hA 6 rfl
   have q7:=hA 7 rfl
   have q69:=hA 69 rfl
   try simp (disch:=first|exact dqc|fail) only [go_sem,↓reduceIte] at q4 q6 q7 q69
   have hlt:((m:Int)<(m:Int))=False:=eq_false (by omega)
   have otv:=M.t.one
   have oav:=M.a.one
   have lX:=xX.len
   have oWX:OwnE encI 3 (h.length+2) X w o:=((hO.ext x24).setBox SQ.1).ext xX
   have hrn:((ms.map fun m=>(m.2,m.1)).reverse).length=ms.length:=by simp
   have rA:Rows encM X av (ms.map fun m=>(m.2,m.1)).reverse:=M.a.rows (by rw [hrn,hml];omega)
   obtain ⟨x,K1,ea,oX,xK⟩:∃ x K1,appendA prog h.length X 33 tv av=some (x,K1)∧Own encM 36 H4.length K1 x (ms++(ms.map fun m=>(m.2,m.1)).reverse)∧∀ G,G.length≤H4.length→Ext G X→Ext G K1:=by
    by_cases c:ms=[]
    ·subst c
     exact ⟨_,_,M.t.app0 (P:=prog) (base:=h.length) rA Fc.el33,by simpa using M.t,fun G _ g=>g⟩
    ·obtain ⟨x,K1,p1,p2,p3,_⟩:=M.t.growR (P:=prog) (base:=h.length) rA Fc.el33 encM_sc (by omega) (by omega) (by rw [hrn];exact List.length_pos_iff.2 c) (by rw [hrn,hml];omega)
     exact ⟨x,K1,p1,p2,p3⟩
   have x1':SpE H4 (h.length+1) v1 l1 (1+2 * m) K1:=xK _ (by rw [List.length_set];exact Nat.le_refl _) xX
   have oxx:=oX.one
   have iW1:Ints K1 w o:=ownE_ints (((hO.ext x24).setBox SQ.1).ext x1') hsm
   have lK1:=x1'.len
   obtain ⟨_,K2,e9,x9,mv,rfl,oM⟩:=run_Make (base:=h.length) (h:=K1) (v:=w) (mv:=x) (o:=o) (ms:=ms++(ms.map fun m=>(m.2,m.1)).reverse) (by omega) iW1 (oX.rows (by rw [List.length_append,hrn,hml];omega)) (by rw [List.length_append,hrn,hml];omega)
   have hmk:makE o (ms++(ms.map fun m=>(m.2,m.1)).reverse)=(o,0):=by
    unfold makE
    rw [if_pos a1,hon,makF_back hord hmb]
   rw [hmk] at e9 oM
   have omv:=oM.one
   have iM:Ints K2 mv o:=ownE_ints oM hsm
   have eq9:=fun base=>run_equal (base:=base) iM (iW1.ext x9)
   have haw:=fun base=>run_awake (base:=base) (h:=K2)
   have hsp:=@Nat.succ_ne_zero;repeat' (first|simp (disch:=first|exact dqc|fail) only [go_sem,↓reduceIte,hsp,r70,r13,r14,q4,q6,q7,q69,hlt,ea,e9,eq_self,eq9,decide_true,haw]|refine WP_drw ?_|refine cnd_intro (fun hsp=>?_) fun hsp=>?_)
   exact fB rfl ((x1'.ext x9).on (xH.trans x24) (by omega))
 ·have t1:((n:Int) > 1)=False:=eq_false (by omega)
  have hsp:=@Nat.succ_ne_zero;repeat' (first|simp (disch:=first|exact dqc|fail) only [go_sem,↓reduceIte,hsp,e1,e2,e3,e4,e5,e6,e7,e8,eq_self,ne_eq,not_true,decide_false,lw4,lra,lrb,t1,hmul,t3,um]|refine WP_drw ?_|refine cnd_intro (fun hsp=>?_) fun hsp=>?_)
  refine WP_count [(13,15),(70,95)] 0 m (Nat.zero_le _) (fun _ i fr X=>fr 70=.int .i64 (i:Int)∧∃ tv av ms,fr 13=tv∧fr 14=av∧SpE H4 (h.length+1) v1 l1 (1+2 * i) X∧MvT H4.length X tv av ms (ms.map fun m=>(m.2,m.1)).reverse∧ms.length=i∧∀ m ∈ ms,(0≤m.1∧m.1<(n:Int))∧(0≤m.2∧m.2<(n:Int))) ?_ ?_ ?_
  ·exact ⟨by (simp (disch:=first|exact dqc|fail) only [go_sem,↓reduceIte,Int.natCast_zero];first|done|rfl),.slice none 0 0,.slice none 0 0,[],by simp (disch:=first|exact dqc|fail) only [go_sem,↓reduceIte],by simp (disch:=first|exact dqc|fail) only [go_sem,↓reduceIte],s5,⟨Own.nil,Own.nil,fun _ _=>.inl .nil⟩,rfl,by simp⟩
  ·rintro i fr X hi0 hi hA ⟨r70,tv,av,ms,r13,r14,xX,M,hml,hmb⟩
   have q4:=hA 4 rfl
   have q6:=hA 6 rfl
   have q7:=hA 7 rfl
   have q69:=hA 69 rfl
   try simp (disch:=first|exact dqc|fail) only [go_sem,↓reduceIte] at q4 q6 q7 q69
   have hlt:((i:Int)<(m:Int))=True:=eq_true (by omega)
   have otv:=M.t.one
   have oav:=M.a.one
   have lX:=xX.len
   have hSX:=xX.at SQ
   have oWX:OwnE encI 3 (h.length+2) X w o:=((hO.ext x24).setBox SQ.1).ext xX
   have iWX:Ints X w o:=ownE_ints oWX hsm
   have lwX:=lenI iWX
   rw [hon] at lwX
   have u1:=up_bd (silk:=l1) (k:=1+2 * i) (n:=(n:Int)-1) (by omega)
   have u2:=up_bd (silk:=l1) (k:=1+2 * i+1) (n:=(n:Int)-1) (by omega)
   have f1:=fun base=>run_upto (base:=base) (n:=(n:Int)-1) hSX (by omega) (by omega)
   obtain ⟨K3,eK3⟩:∃ K3,K3=X.set (h.length+1) (spB v1 l1 (1+2 * i+1)):=⟨_,rfl⟩
   have y3:=xX.step (k':=1+2 * i+1) lid
   rw [← eK3] at y3 f1
   have hS3:=y3.at SQ
   have f2:=fun base=>run_upto (base:=base) (n:=(n:Int)-1) hS3 (by omega) (by omega)
   obtain ⟨K4,eK4⟩:∃ K4,K4=K3.set (h.length+1) (spB v1 l1 (1+2 * i+1+1)):=⟨_,rfl⟩
   have y4:=y3.step (k':=1+2 * i+1+1) lid
   rw [← eK4] at y4 f2
   have oW3:OwnE encI 3 (h.length+2) K3 w o:=((hO.ext x24).setBox SQ.1).ext y3
   have iW3:Ints K3 w o:=ownE_ints oW3 hsm
   have lw3:=lenI iW3
   rw [hon] at lw3
   generalize up l1 (1+2 * i) ((n:Int)-1)=a at u1 f1
   generalize up l1 (1+2 * i+1) ((n:Int)-1)=b at u2 f2
   have l3':K3.length=X.length:=by rw [eK3,List.length_set]
   have l4':K4.length=X.length:=by rw [eK4,List.length_set,l3']
   have M3:MvT H4.length K3 tv av ms (ms.map fun m=>(m.2,m.1)).reverse:=by rw [eK3];exact M.setBox hSX.1
   have M4:MvT H4.length K4 tv av ms (ms.map fun m=>(m.2,m.1)).reverse:=by rw [eK4];exact M3.setBox hS3.1
   obtain ⟨K5,eK5⟩:∃ K5,K5=K4++[mvB a b]:=⟨_,rfl⟩
   have gm5:K5[K4.length]?=some (mvB a b):=by rw [eK5];exact get_eq rfl
   have z5:Ext K4 K5:=by rw [eK5];exact .app .refl
   have l5':K5.length=K4.length+1:=by rw [eK5];simp
   obtain ⟨K6,eK6⟩:∃ K6,K6=K5++[rowE encM 36 [(a,b)] 0]:=⟨_,rfl⟩
   have z6:Ext K5 K6:=by rw [eK6];exact .app .refl
   have l6':K6.length=K5.length+1:=by rw [eK6];simp
   have M6:=(M4.ext z5).ext z6
   obtain ⟨tv',K7,ea,oT,eT,gT⟩:=M6.t.growR (P:=prog) (base:=h.length) (x:=.slice (some ⟨K5.length,0,0⟩) 1 1) (m:=[(a,b)]) (t:=33) (Rows.own (by rw [eK6];exact get_eq rfl) rfl (by simp)) Fc.el33 encM_sc (by omega) (by omega) (by simp) (by simp;omega)
   have M7:=M6.growT gT oT
   have otv':=M7.t.one
   have l7':=gT.len
   obtain ⟨K8,eK8⟩:∃ K8,K8=K7++[rowE encM 36 [(b,a)] 0]:=⟨_,rfl⟩
   have z8:Ext K7 K8:=by rw [eK8];exact .app .refl
   have l8':K8.length=K7.length+1:=by rw [eK8];simp
   have M8:=M7.ext z8
   obtain ⟨av',K9,ei,oA,eA,gA⟩:=run_insM (base:=h.length) (id2:=K7.length) (x:=(b,a)) M8.a (by rw [eK8];exact get_eq rfl) (offV_low M7.a (Nat.le_refl _)) (by omega) (by omega) (by simp;omega)
   have M9:=M8.growA gA oA
   have oav':=M9.a.one
   have g7:K7[K4.length]?=some (mvB a b):=gT.keep _ _ (z6.get gm5) (offV_low M4.t (Nat.le_refl _))
   have fin:SpE H4 (h.length+1) v1 l1 (1+2 * (i+1)) K9:=by
    have hL:(H4.set (h.length+1) (spB v1 l1 (1+2 * i+1+1))).length≤H4.length:=by rw [List.length_set];exact Nat.le_refl _
    exact eA _ hL ((eT _ hL ((y4.ext z5).ext z6)).trans z8)
   have gm6:=z6.get gm5
   have g8:=z8.get g7
   unfold mvB at eK5 gm5 gm6 g7 g8
   have hsp:=@Nat.succ_ne_zero;repeat' (first|simp (disch:=first|exact dqc|fail) only [go_sem,↓reduceIte,hsp,r70,r13,r14,q4,q6,q7,q69,hlt,lwX,f1,lw3,f2,← eK5]|refine WP_drw ?_|refine cnd_intro (fun hsp=>?_) fun hsp=>?_)
   refine WPS_go ?_
   refine WP_wild [⟨6,3,88,⟨K4.length,0,1⟩,.int .i64 b,11⟩,⟨8,3,90,⟨K4.length,0,0⟩,.int .i64 a,11⟩] (by kernel_rfl) (by kernel_rfl) (by kernel_rfl) ⟨refsLow_int,refsLow_int,trivial⟩ fun K0 hK=>?_
   iterate 14
    rw [TRS_cons]
    refine ⟨by first|(simp (disch:=first|exact dqc|fail) only [go_sem,↓reduceIte,r13,r14,gm5,bsM1,← eK6,gm6,ea,g7,← eK8,g8,ei,ldsQ_cons,ldsQ_nil,grdQ_cons,grdQ_nil,if_true,Nat.reduceLeDiff];done)|exact trivial,?_⟩
    simp (disch:=first|exact dqc|fail) only [go_sem,↓reduceIte,r13,r14,gm5,bsM1,← eK6,gm6,ea,g7,← eK8,g8,ei]
   rw [TRS_nil]
   refine ⟨by first|(simp (disch:=first|exact dqc|fail) only [go_sem,↓reduceIte,r13,r14,gm5,bsM1,← eK6,gm6,ea,g7,← eK8,g8,ei,ldsQ_cons,ldsQ_nil,grdQ_cons,grdQ_nil,if_true,Nat.reduceLeDiff];done)|exact trivial,?_⟩
   subst hK
   have hsp:=@Nat.succ_ne_zero;repeat' (first|simp (disch:=first|exact dqc|fail) only [go_sem,↓reduceIte,hsp,r70,q4,q6,q7,q69]|refine WP_drw ?_|refine cnd_intro (fun hsp=>?_) fun hsp=>?_)
   refine ⟨agq,by omega,tv',av',ms++[(a,b)],by simp (disch:=first|exact dqc|fail) only [go_sem,↓reduceIte],by simp (disch:=first|exact dqc|fail) only [go_sem,↓reduceIte],fin,?_,by simp [hml],fun x hx=>?_⟩
   ·have:((ms++[(a,b)]).map fun m=>(m.2,m.1)).reverse=(b,a) :: (ms.map fun m=>(m.2,m.1)).reverse:=by simp
    rw [this];exact M9
   ·rcases List.mem_append.1 hx with hx|hx
    ·exact hmb x hx
    ·rw [List.mem_singleton] at hx
     subst hx
     exact ⟨by simp only;omega,by simp only;omega⟩
  ·rintro fr X hA ⟨r70,tv,av,ms,r13,r14,xX,M,hml,hmb⟩
   have q4:=hA 4 rfl
   have q6:=hA 6 rfl
   have q7:=hA 7 rfl
   have q69:=hA 69 rfl
   try simp (disch:=first|exact dqc|fail) only [go_sem,↓reduceIte] at q4 q6 q7 q69
   have hlt:((m:Int)<(m:Int))=False:=eq_false (by omega)
   have otv:=M.t.one
   have oav:=M.a.one
   have lX:=xX.len
   have oWX:OwnE encI 3 (h.length+2) X w o:=((hO.ext x24).setBox SQ.1).ext xX
   have hrn:((ms.map fun m=>(m.2,m.1)).reverse).length=ms.length:=by simp
   have rA:Rows encM X av (ms.map fun m=>(m.2,m.1)).reverse:=M.a.rows (by rw [hrn,hml];omega)
   obtain ⟨x,K1,ea,oX,xK⟩:∃ x K1,appendA prog h.length X 33 tv av=some (x,K1)∧Own encM 36 H4.length K1 x (ms++(ms.map fun m=>(m.2,m.1)).reverse)∧∀ G,G.length≤H4.length→Ext G X→Ext G K1:=by
    by_cases c:ms=[]
    ·subst c
     exact ⟨_,_,M.t.app0 (P:=prog) (base:=h.length) rA Fc.el33,by simpa using M.t,fun G _ g=>g⟩
    ·obtain ⟨x,K1,p1,p2,p3,_⟩:=M.t.growR (P:=prog) (base:=h.length) rA Fc.el33 encM_sc (by omega) (by omega) (by rw [hrn];exact List.length_pos_iff.2 c) (by rw [hrn,hml];omega)
     exact ⟨x,K1,p1,p2,p3⟩
   have x1':SpE H4 (h.length+1) v1 l1 (1+2 * m) K1:=xK _ (by rw [List.length_set];exact Nat.le_refl _) xX
   have oxx:=oX.one
   have iW1:Ints K1 w o:=ownE_ints (((hO.ext x24).setBox SQ.1).ext x1') hsm
   have lK1:=x1'.len
   obtain ⟨_,K2,e9,x9,mv,rfl,oM⟩:=run_Make (base:=h.length) (h:=K1) (v:=w) (mv:=x) (o:=o) (ms:=ms++(ms.map fun m=>(m.2,m.1)).reverse) (by omega) iW1 (oX.rows (by rw [List.length_append,hrn,hml];omega)) (by rw [List.length_append,hrn,hml];omega)
   have hmk:makE o (ms++(ms.map fun m=>(m.2,m.1)).reverse)=(o,0):=by
    unfold makE
    rw [if_pos a1,hon,makF_back hord hmb]
   rw [hmk] at e9 oM
   have omv:=oM.one
   have iM:Ints K2 mv o:=ownE_ints oM hsm
   have eq9:=fun base=>run_equal (base:=base) iM (iW1.ext x9)
   have haw:=fun base=>run_awake (base:=base) (h:=K2)
   have hsp:=@Nat.succ_ne_zero;repeat' (first|simp (disch:=first|exact dqc|fail) only [go_sem,↓reduceIte,hsp,r70,r13,r14,q4,q6,q7,q69,hlt,ea,e9,eq_self,eq9,decide_true,haw]|refine WP_drw ?_|refine cnd_intro (fun hsp=>?_) fun hsp=>?_)
   exact fB rfl ((x1'.ext x9).on (xH.trans x24) (by omega))
end Go.AM
