/-
  LaceFew, walked.
-/
import Derived.Test.YteanoaejoddnbaaU19
set_option linter.unusedSimpArgs false
set_option linter.unusedVariables false
namespace Go.AM
open Go.Proofs.Try
attribute [-go_sem] put_ne put_same
attribute [local go_sem ↓] put_if
theorem two_len {α:Type} {l:List α} {a b:α} (ha:a ∈ l) (hb:b ∈ l) (h:a ≠ b):2≤l.length:=by
 match l,ha,hb with
 | [x],ha,hb=>rw [List.mem_singleton] at ha hb;exact absurd (ha.trans hb.symm) h
 | _ :: _ :: _,_,_=>simp
def lftN (L:Lac) (ps:List Int) (os:List (List Int)):Nat→Nat
 | 0=>0
 | j+1=>if xplD L (os.getD j []) (os.getD j []).length=true then max (lftN L ps os j) (fnd (shwL L (os.getD j []) ps)).length else lftN L ps os j
theorem lftN_ge {L:Lac} {ps:List Int} {os:List (List Int)} {i:Nat} (h:xplD L (os.getD i []) (os.getD i []).length=true):∀ {j},i<j→(fnd (shwL L (os.getD i []) ps)).length≤lftN L ps os j
 | 0,q=>by omega
 | j+1,q=>by
  unfold lftN
  by_cases e:i=j
  ·subst e
   rw [if_pos h];exact Nat.le_max_right _ _
  ·have:=lftN_ge (ps:=ps) h (j:=j) (by omega)
   split
   ·exact Nat.le_trans this (Nat.le_max_left _ _)
   ·exact this
theorem sub_upto1 {p:Nat} {ps:List Int} (h:ps.Sublist (upto p)):ps.Sublist (upto (p+1)):=by
 rw [upto_succ];exact h.trans (List.sublist_append_left _ _)
theorem sub_upto2 {p:Nat} {ps:List Int} (h:ps.Sublist (upto p)):(ps++[(p:Int)]).Sublist (upto (p+1)):=by
 rw [upto_succ];exact h.append_right _
theorem few_left {L:Lac} {ps:List Int} (hL:LacOk L) (hs:ps.Sublist (upto L.C.length)) (hb:btL ps (dcdL L.C.length (fnd L))=true):2≤lftN L ps (ordsI L.C.length) (ordsI L.C.length).length:=by
 obtain ⟨a,ha,b,hb',hab,hk⟩:=few_two (fnd_nodup (L:=L)) (fun o h=>fnd_ord h) hs hb
 have hin:∀ p ∈ ps,0≤p∧p<(L.C.length:Int):=fun p hp=>upto_mem.1 (hs.subset hp)
 have hao:=fnd_ord ha
 obtain ⟨i,hi,e⟩:=List.mem_iff_getElem.1 (ordsI_all hao)
 have ea:(ordsI L.C.length).getD i []=a:=by rw [List.getD_eq_getElem?_getD,List.getElem?_eq_getElem hi,e];rfl
 have hx:xplD L ((ordsI L.C.length).getD i []) ((ordsI L.C.length).getD i []).length=true:=by rw [ea];exact xplD_iff.2 (fnd_mem.1 ha).2
 refine Nat.le_trans ?_ (lftN_ge hx hi)
 rw [ea]
 refine two_len ((fnd_shown hL hao hin).2 ⟨ha,fun _ _=>rfl⟩) ((fnd_shown hL hao hin).2 ⟨hb',fun p hp=>(hk p hp).symm⟩) hab
set_option maxRecDepth 100000 in
set_option maxHeartbeats 8000000 in
theorem run_LaceFew {base:Nat} {h:Heap} {v0 v1:AVal} {l0 l1:List Int} (hB0:Bytes h v0 l0) (hB1:Bytes h v1 l1) :
  callL prog raw base (.fn 14 [] []) [v0,v1] h=some (.bool true,h):=by
 have o0:=hB0.one
 have o1:=hB1.one
 have hw0:=run_wound (base:=h.length) hB0
 have hw1:=run_wound (base:=h.length) (hB1.ext (.app (t:=[spB v0 l0 0]) .refl))
 rw [show (h++[spB v0 l0 0]).length=h.length+1 by simp] at hw1
 obtain ⟨G,eG⟩:∃ G,G=h++[spB v0 l0 0]++[spB v1 l1 0]:=⟨_,rfl⟩
 have lG:G.length=h.length+2:=by rw [eG];simp
 have xG:Ext h G:=by rw [eG];exact .app (.app .refl)
 have hS:SpAt G h.length v0 l0 0:=by rw [eG];exact (SpAt.new hB0 rfl).app
 have hQ:G[h.length+1]?=some (spB v1 l1 0):=by rw [eG];exact get_eq (by simp)
 have hv1:∀ r n c,v1=.slice (some r) n c→r.id ≠ h.length+1:=fun r n c q=>by have:=hB1.low r n c q;omega
 obtain ⟨H1,H2,T,C,R,o,cv,rv,ov,k,e1,e2,ocv,oov,orv,g2,lG1,S⟩:=run_start (base:=h.length) (N:=5) (most:=4) (by omega) hS (by omega) (by omega) (by omega)
 rw [show (((5:Nat):Int))=5 from rfl] at e1
 rw [show (((4:Nat):Int))=4 from rfl] at e2
 obtain ⟨B,eB⟩:∃ B,B=H1++[lacB T cv (.slice none 0 0)]:=⟨_,rfl⟩
 have gB:B[H1.length]?=some (lacB T cv (.slice none 0 0)):=by rw [eB];exact get_eq rfl
 obtain ⟨H3,eH3⟩:∃ H3,H3=H2.set H1.length (lacB T cv rv):=⟨_,rfl⟩
 rw [← eB] at e2
 rw [← eH3] at S
 have xh3:Ext h H3:=S.sp.on xG (Nat.le_refl _)
 have lh3:=xh3.len
 obtain ⟨b1,b2⟩:=S.b
 have hc:=S.lac (by omega) (by omega)
 have hcl:=S.bd
 have hoC:=S.ord
 have hRl:=S.rl
 have lhH1:h.length+2≤H1.length:=by omega
 have hoL:=S.xpl
 have hTb:=S.made.tb
 obtain ⟨L,eL⟩:∃ L:Lac,L=⟨T,C,R⟩:=⟨_,rfl⟩
 have hLn:L.C.length=C.length:=by rw [eL]
 have hLR:L.R.length=R.length:=by rw [eL]
 have aL:=S.at (by omega) (by omega)
 rw [← eL] at hc hoL aL
 have hok:=chkL_iff.1 hc
 obtain ⟨n,en⟩:∃ n,n=C.length:=⟨_,rfl⟩
 rw [← en] at hLn hcl hoC
 obtain ⟨p1,p2,p3,p4,p5,p6,p7⟩:=found_all hc hoL
 rw [hLn] at p6
 obtain ⟨os,eos⟩:∃ os,os=fnd L:=⟨_,rfl⟩
 rw [← eos] at p6 p7
 obtain ⟨D,eD⟩:∃ D,D=dcdL n os:=⟨_,rfl⟩
 rw [← eD] at p6
 have hD0:D=dcdL L.C.length (fnd L):=by rw [eD,hLn,eos]
 obtain ⟨hDb,hDl,hDs⟩:=dcdL_bd (fnd_nodup (L:=L)) fun o h=>fnd_ord h
 rw [← hD0,hLn] at hDb hDl
 have hDsm:Small D:=⟨by omega,fun x hx=>by have:=hDb x hx;omega⟩
 obtain ⟨_,G4,e4,x4,lv,rfl,oD⟩:=run_Decide (base:=h.length) (h:=H3) (by omega) aL
 rw [p6] at e4 oD
 have l4:=x4.len
 have olv:=oD.one
 have gc3:=S.g
 have gq4:G4[h.length+1]?=some (spB v1 l1 0):=x4.get (S.sp.get (by omega) hQ)
 obtain ⟨Bq,eBq⟩:∃ Bq:Nat→Heap,Bq=fun k=>G4.set (h.length+1) (spB v1 l1 k):=⟨_,rfl⟩
 have lBq:∀ k,(Bq k).length=G4.length:=fun k=>by rw [eBq];simp
 have qBq:∀ k,(Bq k)[h.length+1]?=some (spB v1 l1 k):=fun k=>by rw [eBq];show (G4.set _ _)[_]?=_;rw [List.getElem?_set_self (by omega)]
 have gBq:∀ k,(Bq k)[H1.length]?=some (lacB T cv rv):=fun k=>by rw [eBq];show (G4.set _ _)[_]?=_;rw [List.getElem?_set_ne (by omega)];exact x4.get gc3
 have hBh:∀ k,Ext h (Bq k):=fun k=>by rw [eBq];exact (xh3.trans x4).set (by omega)
 have mvB:∀ {α:Type} {E:Enc α} {e:TypeId} {b:Nat} {v:AVal} {l:List α} (k),OwnE E e b G4 v l→OwnE E e b (Bq k) v l:=fun k y=>by rw [eBq];exact y.setBox gq4
 have hCs:Small C:=by have:=lac_small hc;rw [eL] at this;exact this
 have aB:∀ k,LacAt (Bq k) (.agg [.int .i64 T,cv,rv]) L:=fun k=>by
  rw [eL]
  exact ⟨cv,rv,rfl,ownE_ints (mvB k (S.oC.ext x4)) hCs,(mvB k (S.oR.ext x4)).rows (by omega)⟩
 have iOB:∀ k,Ints (Bq k) ov o:=fun k=>ownE_ints (mvB k (S.oO.ext x4)) (ord_small hoC (by omega))
 have iDB:∀ k,Ints (Bq k) lv D:=fun k=>ownE_ints (mvB k (.inl oD)) hDsm
 have stB:∀ {X:Heap} {k k':Nat},Ext (Bq k) X→Ext (Bq k') (X.set (h.length+1) (spB v1 l1 k')):=fun {X k k'} e=>by
  have:=e.set2 (i:=h.length+1) (k:=spB v1 l1 k') (by rw [lBq];omega)
  rw [eBq] at this ⊢
  simpa [List.set_set] using this
 have x0:Ext (Bq 0) G4:=by
  rw [eBq];show Ext (G4.set _ _) _;rw [set_id gq4];exact .refl
 have gc3':=gc3
 unfold lacB at eB gB g2 eH3 gc3'
 refine callL_run func14 rfl rfl ?_
 have hsp:=@Nat.succ_ne_zero;repeat' (first|simp (disch:=first|exact dqc|fail) only [go_sem,↓reduceIte,hsp,hw0,hw1,← eG,e1,← eB,gB,e2,g2,← eH3,gc3',e4,neB,ne_eq,eq_self,not_true,decide_false]|refine WP_drw ?_|refine cnd_intro (fun hsp=>?_) fun hsp=>?_)
 refine WP_count [(4,4),(11,111)] 0 4 (Nat.zero_le _) (fun _ i fr K=>fr 40=.int .i64 (i:Int)∧∃ kq,kq≤7 * i∧Ext (Bq kq) K) ?_ ?_ ?_
 ·exact ⟨by (simp (disch:=first|exact dqc|fail) only [go_sem,↓reduceIte,Int.natCast_zero];first|done|rfl),0,by omega,x0⟩
 ·rintro i fr K hi0 hi hA ⟨r40,kq,hkq,xK⟩
  have q6:=hA 6 rfl
  have q7:=hA 7 rfl
  have q8:=hA 8 rfl
  have q9:=hA 9 rfl
  try simp (disch:=first|exact dqc|fail) only [go_sem,↓reduceIte] at q6 q7 q8 q9
  have hlt:((i:Int)<4)=True:=eq_true (by omega)
  have lK:=xK.len
  rw [lBq] at lK
  have lO:=lenI ((iOB kq).ext xK)
  rw [hoC.1] at lO
  have hsp:=@Nat.succ_ne_zero;repeat' (first|simp (disch:=first|exact dqc|fail) only [go_sem,↓reduceIte,hsp,r40,q6,q7,q8,q9,hlt,lO]|refine WP_drw ?_|refine cnd_intro (fun hsp=>?_) fun hsp=>?_)
  refine WP_count [(11,12),(44,53)] 0 n (Nat.zero_le _) (fun _ p fr X=>fr 44=.int .i64 (p:Int)∧∃ k2,k2≤kq+p∧Ext (Bq k2) X∧∃ w ps,fr 11=w∧OwnE encI 3 G4.length X w ps∧ps.Sublist (upto p)) ?_ ?_ ?_
  ·exact ⟨by (simp (disch:=first|exact dqc|fail) only [go_sem,↓reduceIte,Int.natCast_zero];first|done|rfl),kq,by omega,xK,_,[],by simp (disch:=first|exact dqc|fail) only [go_sem,↓reduceIte],.inl Own.nil,List.nil_sublist _⟩
  ·rintro p fr2 X hp0 hp hA2 ⟨r44,k2,hk2,xX,w,ps,r11,oP,hps⟩
   have d4:=hA2 4 rfl
   have d6:=hA2 6 rfl
   have d7:=hA2 7 rfl
   have d8:=hA2 8 rfl
   have d9:=hA2 9 rfl
   have d40:=hA2 40 rfl
   have d43:=hA2 43 rfl
   try simp (disch:=first|exact dqc|fail) only [go_sem,↓reduceIte,q6,q7,q8,q9] at d4 d6 d7 d8 d9 d40 d43
   have hlt2:((p:Int)<(n:Int))=True:=eq_true (by omega)
   have ow:=oP.one
   have lX:=xX.len
   rw [lBq] at lX
   have hXh:=(hBh k2).trans xX
   have ho:=fun base=>run_once (base:=base) (n:=2) (show SpAt X (h.length+1) v1 l1 k2 from ⟨xX.get (qBq k2),hB1.ext hXh,hv1⟩) (by omega) (by omega)
   obtain ⟨X1,eX1⟩:∃ X1,X1=X.set (h.length+1) (spB v1 l1 (k2+1)):=⟨_,rfl⟩
   rw [← eX1] at ho
   have x1:Ext (Bq (k2+1)) X1:=by rw [eX1];exact stB xX
   have oP1:OwnE encI 3 G4.length X1 w ps:=by rw [eX1];exact oP.setBox (xX.get (qBq k2))
   have lX1:X1.length=X.length:=by rw [eX1];simp
   by_cases c:up l1 k2 (2-1)=0
   ·rw [decide_eq_true c] at ho
    have hpl:=sub_len hps
    obtain ⟨w',X2,ea,oW,lW,eW,oneW,kW⟩:=OwnE.snocI (base:=h.length) (x:=(p:Int)) oP1 (by omega) (by omega) (by omega)
    have hsp:=@Nat.succ_ne_zero;repeat' (first|simp (disch:=first|exact dqc|fail) only [go_sem,↓reduceIte,hsp,r44,r11,d4,d6,d7,d8,d9,d40,d43,q6,q7,q8,q9,hlt2,ho,ea]|refine WP_drw ?_|refine cnd_intro (fun hsp=>?_) fun hsp=>?_)
    exact ⟨agq,by omega,k2+1,by omega,eW _ (by rw [lBq];exact Nat.le_refl _) x1,w',_,rfl,.inl oW,sub_upto2 hps⟩
   ·rw [decide_eq_false c] at ho
    have hsp:=@Nat.succ_ne_zero;repeat' (first|simp (disch:=first|exact dqc|fail) only [go_sem,↓reduceIte,hsp,r44,r11,d4,d6,d7,d8,d9,d40,d43,q6,q7,q8,q9,hlt2,ho]|refine WP_drw ?_|refine cnd_intro (fun hsp=>?_) fun hsp=>?_)
    exact ⟨agq,by omega,k2+1,by omega,x1,w,ps,rfl,oP1,sub_upto1 hps⟩
  ·rintro fr2 X hA2 ⟨r44,k2,hk2,xX,w,ps,q11,oP,hps⟩
   have d4:=hA2 4 rfl
   have d6:=hA2 6 rfl
   have d7:=hA2 7 rfl
   have d8:=hA2 8 rfl
   have d9:=hA2 9 rfl
   have d40:=hA2 40 rfl
   have d43:=hA2 43 rfl
   try simp (disch:=first|exact dqc|fail) only [go_sem,↓reduceIte,q6,q7,q8,q9] at d4 d6 d7 d8 d9 d40 d43
   have hlt2:((n:Int)<(n:Int))=False:=eq_false (by omega)
   have ow:=oP.one
   have lX:=xX.len
   rw [lBq] at lX
   have hXh:=hBh k2
   have lh2:=hXh.len
   have hpl:=sub_len hps
   have hpin:∀ p ∈ ps,0≤p∧p<(n:Int):=fun p hp=>upto_mem.1 (hps.subset hp)
   have iP:=ownE_ints oP ⟨by omega,fun x hx=>by have:=hpin x hx;omega⟩
   have iD:=(iDB k2).ext xX
   have lP:=lenI iP
   have lD:=lenI iD
   have lOX:=lenI ((iOB k2).ext xX)
   rw [hoC.1] at lOX
   cases cb:btL ps D with
   | false =>
    by_cases c1:(ps.length:Int) > (D.length:Int)
    ·have t1:((ps.length:Int) > (D.length:Int))=True:=eq_true c1
     have hsp:=@Nat.succ_ne_zero;repeat' (first|simp (disch:=first|exact dqc|fail) only [go_sem,↓reduceIte,hsp,r44,d4,d6,d7,d8,d9,d40,d43,q6,q7,q8,q9,q11,r40,hlt2,lP,lD,t1]|refine WP_drw ?_|refine cnd_intro (fun hsp=>?_) fun hsp=>?_)
     exact ⟨agq,by omega,k2,by omega,xX⟩
    ·have t1:((ps.length:Int) > (D.length:Int))=False:=eq_false c1
     have hle:ps.length=D.length∧lexB ps D=false:=by
      unfold btL at cb
      rw [Bool.or_eq_false_iff,decide_eq_false_iff_not,Bool.and_eq_false_iff,decide_eq_false_iff_not] at cb
      refine ⟨by omega,?_⟩
      rcases cb.2 with q|q
      ·exact absurd (show ps.length=D.length by omega) q
      ·exact q
     have t2:((ps.length:Int)=(D.length:Int))=True:=eq_true (by omega)
     have hcm:=fun base=>run_compare (base:=base) iP iD hle.1
     obtain ⟨cr,ecr⟩:∃ cr,cr=cmpL ps D:=⟨_,rfl⟩
     have t3:(cr ≥ 0)=True:=eq_true (by rw [ecr];exact (cmpL_lex hle.1).2 hle.2)
     rw [← ecr] at hcm
     have hsp:=@Nat.succ_ne_zero;repeat' (first|simp (disch:=first|exact dqc|fail) only [go_sem,↓reduceIte,hsp,r44,d4,d6,d7,d8,d9,d40,d43,q6,q7,q8,q9,q11,r40,hlt2,lP,lD,t1,t2,hcm,t3]|refine WP_drw ?_|refine cnd_intro (fun hsp=>?_) fun hsp=>?_)
     exact ⟨agq,by omega,k2,by omega,xX⟩
   | true =>
    have t1:((ps.length:Int) > (D.length:Int))=False:=eq_false (by
     unfold btL at cb
     rw [Bool.or_eq_true,decide_eq_true_eq,Bool.and_eq_true,decide_eq_true_eq] at cb
     omega)
    have xL5:Ext h X:=hXh.trans xX
    obtain ⟨w5,K5,e5,x5,hA5⟩:=run_lords (base:=h.length) (h:=X) (n:=n) (by omega) (by omega)
    have ow5:=hA5.one
    have l5:=x5.len
    have hfew:=ordsI_few (n:=n) (by omega)
    obtain ⟨os5,eos5⟩:∃ os5,os5=ordsI n:=⟨_,rfl⟩
    rw [← eos5] at hA5 hfew
    have hll:∀ {Y},Ext K5 Y→lenOpA prog Y 54 w5=some (.int .i64 (os5.length:Int)):=fun {Y} e=>(hA5.ext e).all.len (by omega)
    have hl5:=hll .refl
    by_cases c2:ps.length=D.length
    ·have t2:((ps.length:Int)=(D.length:Int))=True:=eq_true (by omega)
     have hcm:=fun base=>run_compare (base:=base) iP iD c2
     have hlx:lexB ps D=true:=by
      unfold btL at cb
      rw [Bool.or_eq_true,decide_eq_true_eq,Bool.and_eq_true] at cb
      rcases cb with q|q
      ·omega
      ·exact q.2
     obtain ⟨cr,ecr⟩:∃ cr,cr=cmpL ps D:=⟨_,rfl⟩
     have t3:(cr ≥ 0)=False:=eq_false (by
      rw [ecr];intro q
      have:=(cmpL_lex c2).1 q
      rw [hlx] at this;cases this)
     rw [← ecr] at hcm
     have hsp:=@Nat.succ_ne_zero;repeat' (first|simp (disch:=first|exact dqc|fail) only [go_sem,↓reduceIte,hsp,r44,d4,d6,d7,d8,d9,d40,d43,q6,q7,q8,q9,q11,r40,hlt2,lP,lD,t1,t2,hcm,t3,lOX,e5,hl5]|refine WP_drw ?_|refine cnd_intro (fun hsp=>?_) fun hsp=>?_)
     refine WP_count [(4,4),(13,19),(76,108)] 0 os5.length (Nat.zero_le _) (fun _ j fr Y=>fr 76=.int .i64 (j:Int)∧fr 13=.int .i64 ((lftN L ps os5 j:Nat):Int)∧Ext K5 Y) ?_ ?_ ?_
     ·exact ⟨by (simp (disch:=first|exact dqc|fail) only [go_sem,↓reduceIte,Int.natCast_zero];first|done|rfl),by simp (disch:=first|exact dqc|fail) only [go_sem,↓reduceIte];rfl,.refl⟩
     ·rintro j fr3 Y hj0 hj hA3 ⟨r76,r13,xY⟩
      have z6:=hA3 6 rfl
      have z7:=hA3 7 rfl
      have z8:=hA3 8 rfl
      have z9:=hA3 9 rfl
      have z11:=hA3 11 rfl
      have z40:=hA3 40 rfl
      have z74:=hA3 74 rfl
      have z75:=hA3 75 rfl
      try simp (disch:=first|exact dqc|fail) only [go_sem,↓reduceIte,q6,q7,q8,q9,q11] at z6 z7 z8 z9 z11 z40 z74 z75
      have hlt3:((j:Int)<(os5.length:Int))=True:=eq_true (by omega)
      obtain ⟨oj,eoj⟩:∃ oj,oj=os5[j]:=⟨_,rfl⟩
      have hoj:os5[j]?=some oj:=by rw [eoj];exact List.getElem?_eq_getElem hj
      have hgj:os5.getD j []=oj:=by rw [List.getD_eq_getElem?_getD,hoj];rfl
      have hojO:Ord n oj:=ordsI_ord (by rw [← eos5];exact List.mem_of_getElem? hoj)
      obtain ⟨a,vj,ad,ld,oJ⟩:=(hA5.ext xY).at (A:=Y) (by omega) hoj
      have ovj:=oJ.one
      have ldY:=ld Y .refl
      have iJ:=ownE_ints oJ (ord_small hojO (by omega))
      have xXY:=(xX.trans x5).trans xY
      have lY:=xXY.len
      have gcY:=xXY.get (gBq k2)
      have aY:=(aB k2).ext xXY
      have ex:=fun base=>run_explains (base:=base) aY iJ hc (by rw [hLn];exact hojO)
      have hsc:lftN L ps os5 (j+1)=if xplD L oj oj.length=true then max (lftN L ps os5 j) (fnd (shwL L oj ps)).length else lftN L ps os5 j:=by rw [lftN,hgj]
      cases cx:xplD L oj oj.length with
      | false =>
       rw [cx] at ex
       rw [cx,if_neg (by simp)] at hsc
       unfold lacB at gcY
       have hsp:=@Nat.succ_ne_zero;repeat' (first|simp (disch:=first|exact dqc|fail) only [go_sem,↓reduceIte,hsp,r76,r13,z6,z7,z8,z9,z11,z40,z74,z75,d4,d6,d7,d8,d9,d40,d43,q6,q7,q8,q9,q11,hlt3,ad,ldY,gcY,ex]|refine WP_drw ?_|refine cnd_intro (fun hsp=>?_) fun hsp=>?_)
       exact ⟨agq,by omega,by rw [hsc],xY⟩
      | true =>
       rw [cx] at ex
       rw [cx,if_pos rfl] at hsc
       have iPY:=iP.ext (x5.trans xY)
       obtain ⟨_,Y1,e6,x6,u6,rfl,oS⟩:=run_shown (base:=h.length) (h:=Y) (ps:=ps) (by omega) aY iJ iPY (by rw [eL];exact hTb) (by omega) (by omega) (by rw [hLn];exact hojO) (by rw [hLn];exact hpin) (by omega)
       rw [decide_eq_true (show L.R.length+ps.length≤12 by omega)] at e6
       have hSok:=shown_ok hok (o:=oj) (ps:=ps) (by rw [hLn];exact hojO) (by rw [hLn];exact hpin) (by omega)
       have hcS:=chkL_iff.2 hSok
       have hofn:oj ∈ fnd L:=fnd_mem.2 ⟨by rw [hLn];exact hojO,xplD_iff.1 cx⟩
       have hoS:oj ∈ fnd (shwL L oj ps):=(fnd_shown hok (by rw [hLn];exact hojO) (by rw [hLn];exact hpin)).2 ⟨hofn,fun _ _=>rfl⟩
       obtain ⟨cw,rw',hu,oDC,oDR⟩:=oS
       have hu:u6=.agg [.int .i64 T,cw,rw']:=by rw [hu,eL];rfl
       subst hu
       have ocw:=oDC.one
       have orw:=oDR.one
       have l6:=x6.len
       obtain ⟨Y2,eY2⟩:∃ Y2,Y2=Y1++[lacB T cw rw']:=⟨_,rfl⟩
       have x7:Ext Y1 Y2:=by rw [eY2];exact .app .refl
       have gd7:Y2[Y1.length]?=some (lacB T cw rw'):=by rw [eY2];exact get_eq rfl
       have aS:LacAt Y2 (.agg [.int .i64 T,cw,rw']) (shwL L oj ps):=⟨cw,rw',by rw [eL];rfl,(ownE_ints oDC (show Small (shwL L oj ps).C from lac_small hcS)).ext x7,(oDR.rows (by simp [shwL,looks];omega)).ext x7⟩
       obtain ⟨s1,s2,s3,s4,s5,s6,s7⟩:=found_all hcS hoS
       have cS:=fun base=>run_Count (base:=base) aS
       rw [s1] at cS
       obtain ⟨m,em⟩:∃ m,m=(fnd (shwL L oj ps)).length:=⟨_,rfl⟩
       rw [← em] at cS s7 hsc
       have t9:((m:Int)<1)=False:=eq_false (by omega)
       have hmx:((max (lftN L ps os5 j) m:Nat):Int)=max ((lftN L ps os5 j:Nat):Int) (m:Int):=by omega
       unfold lacB at gcY eY2 gd7
       have hsp:=@Nat.succ_ne_zero;repeat' (first|simp (disch:=first|exact dqc|fail) only [go_sem,↓reduceIte,hsp,r76,r13,z6,z7,z8,z9,z11,z40,z74,z75,d4,d6,d7,d8,d9,d40,d43,q6,q7,q8,q9,q11,hlt3,ad,ldY,gcY,ex,e6,← eY2,gd7,cS,neB,ne_eq,eq_self,not_true,decide_false,t9]|refine WP_drw ?_|refine cnd_intro (fun hsp=>?_) fun hsp=>?_)
       exact ⟨agq,by omega,by rw [hsc,hmx],xY.trans (x6.trans x7)⟩
     ·rintro fr3 Y hA3 ⟨r76,r13,xY⟩
      have z6:=hA3 6 rfl
      have z7:=hA3 7 rfl
      have z8:=hA3 8 rfl
      have z9:=hA3 9 rfl
      have z11:=hA3 11 rfl
      have z40:=hA3 40 rfl
      have z74:=hA3 74 rfl
      have z75:=hA3 75 rfl
      try simp (disch:=first|exact dqc|fail) only [go_sem,↓reduceIte,q6,q7,q8,q9,q11] at z6 z7 z8 z9 z11 z40 z74 z75
      have hlt3:((os5.length:Int)<(os5.length:Int))=False:=eq_false (by omega)
      have hge:((((lftN L ps os5 os5.length:Nat):Int))<2)=False:=eq_false (by
       have:=few_left hok (ps:=ps) (by rw [hLn];exact hps) (by rw [hLn,← eos,← eD];exact cb)
       rw [hLn,← eos5] at this
       omega)
      have hsp:=@Nat.succ_ne_zero;repeat' (first|simp (disch:=first|exact dqc|fail) only [go_sem,↓reduceIte,hsp,r76,r13,z6,z7,z8,z9,z11,z40,z74,z75,d4,d6,d7,d8,d9,d40,d43,q6,q7,q8,q9,q11,r40,hlt3,hge]|refine WP_drw ?_|refine cnd_intro (fun hsp=>?_) fun hsp=>?_)
      exact ⟨agq,by omega,k2,by omega,(xX.trans x5).trans xY⟩
    ·have t2:((ps.length:Int)=(D.length:Int))=False:=eq_false (by omega)
     have hsp:=@Nat.succ_ne_zero;repeat' (first|simp (disch:=first|exact dqc|fail) only [go_sem,↓reduceIte,hsp,r44,d4,d6,d7,d8,d9,d40,d43,q6,q7,q8,q9,q11,r40,hlt2,lP,lD,t1,t2,lOX,e5,hl5]|refine WP_drw ?_|refine cnd_intro (fun hsp=>?_) fun hsp=>?_)
     refine WP_count [(4,4),(13,19),(76,108)] 0 os5.length (Nat.zero_le _) (fun _ j fr Y=>fr 76=.int .i64 (j:Int)∧fr 13=.int .i64 ((lftN L ps os5 j:Nat):Int)∧Ext K5 Y) ?_ ?_ ?_
     ·exact ⟨by (simp (disch:=first|exact dqc|fail) only [go_sem,↓reduceIte,Int.natCast_zero];first|done|rfl),by simp (disch:=first|exact dqc|fail) only [go_sem,↓reduceIte];rfl,.refl⟩
     ·rintro j fr3 Y hj0 hj hA3 ⟨r76,r13,xY⟩
      have z6:=hA3 6 rfl
      have z7:=hA3 7 rfl
      have z8:=hA3 8 rfl
      have z9:=hA3 9 rfl
      have z11:=hA3 11 rfl
      have z40:=hA3 40 rfl
      have z74:=hA3 74 rfl
      have z75:=hA3 75 rfl
      try simp (disch:=first|exact dqc|fail) only [go_sem,↓reduceIte,q6,q7,q8,q9,q11] at z6 z7 z8 z9 z11 z40 z74 z75
      have hlt3:((j:Int)<(os5.length:Int))=True:=eq_true (by omega)
      obtain ⟨oj,eoj⟩:∃ oj,oj=os5[j]:=⟨_,rfl⟩
      have hoj:os5[j]?=some oj:=by rw [eoj];exact List.getElem?_eq_getElem hj
      have hgj:os5.getD j []=oj:=by rw [List.getD_eq_getElem?_getD,hoj];rfl
      have hojO:Ord n oj:=ordsI_ord (by rw [← eos5];exact List.mem_of_getElem? hoj)
      obtain ⟨a,vj,ad,ld,oJ⟩:=(hA5.ext xY).at (A:=Y) (by omega) hoj
      have ovj:=oJ.one
      have ldY:=ld Y .refl
      have iJ:=ownE_ints oJ (ord_small hojO (by omega))
      have xXY:=(xX.trans x5).trans xY
      have lY:=xXY.len
      have gcY:=xXY.get (gBq k2)
      have aY:=(aB k2).ext xXY
      have ex:=fun base=>run_explains (base:=base) aY iJ hc (by rw [hLn];exact hojO)
      have hsc:lftN L ps os5 (j+1)=if xplD L oj oj.length=true then max (lftN L ps os5 j) (fnd (shwL L oj ps)).length else lftN L ps os5 j:=by rw [lftN,hgj]
      cases cx:xplD L oj oj.length with
      | false =>
       rw [cx] at ex
       rw [cx,if_neg (by simp)] at hsc
       unfold lacB at gcY
       have hsp:=@Nat.succ_ne_zero;repeat' (first|simp (disch:=first|exact dqc|fail) only [go_sem,↓reduceIte,hsp,r76,r13,z6,z7,z8,z9,z11,z40,z74,z75,d4,d6,d7,d8,d9,d40,d43,q6,q7,q8,q9,q11,hlt3,ad,ldY,gcY,ex]|refine WP_drw ?_|refine cnd_intro (fun hsp=>?_) fun hsp=>?_)
       exact ⟨agq,by omega,by rw [hsc],xY⟩
      | true =>
       rw [cx] at ex
       rw [cx,if_pos rfl] at hsc
       have iPY:=iP.ext (x5.trans xY)
       obtain ⟨_,Y1,e6,x6,u6,rfl,oS⟩:=run_shown (base:=h.length) (h:=Y) (ps:=ps) (by omega) aY iJ iPY (by rw [eL];exact hTb) (by omega) (by omega) (by rw [hLn];exact hojO) (by rw [hLn];exact hpin) (by omega)
       rw [decide_eq_true (show L.R.length+ps.length≤12 by omega)] at e6
       have hSok:=shown_ok hok (o:=oj) (ps:=ps) (by rw [hLn];exact hojO) (by rw [hLn];exact hpin) (by omega)
       have hcS:=chkL_iff.2 hSok
       have hofn:oj ∈ fnd L:=fnd_mem.2 ⟨by rw [hLn];exact hojO,xplD_iff.1 cx⟩
       have hoS:oj ∈ fnd (shwL L oj ps):=(fnd_shown hok (by rw [hLn];exact hojO) (by rw [hLn];exact hpin)).2 ⟨hofn,fun _ _=>rfl⟩
       obtain ⟨cw,rw',hu,oDC,oDR⟩:=oS
       have hu:u6=.agg [.int .i64 T,cw,rw']:=by rw [hu,eL];rfl
       subst hu
       have ocw:=oDC.one
       have orw:=oDR.one
       have l6:=x6.len
       obtain ⟨Y2,eY2⟩:∃ Y2,Y2=Y1++[lacB T cw rw']:=⟨_,rfl⟩
       have x7:Ext Y1 Y2:=by rw [eY2];exact .app .refl
       have gd7:Y2[Y1.length]?=some (lacB T cw rw'):=by rw [eY2];exact get_eq rfl
       have aS:LacAt Y2 (.agg [.int .i64 T,cw,rw']) (shwL L oj ps):=⟨cw,rw',by rw [eL];rfl,(ownE_ints oDC (show Small (shwL L oj ps).C from lac_small hcS)).ext x7,(oDR.rows (by simp [shwL,looks];omega)).ext x7⟩
       obtain ⟨s1,s2,s3,s4,s5,s6,s7⟩:=found_all hcS hoS
       have cS:=fun base=>run_Count (base:=base) aS
       rw [s1] at cS
       obtain ⟨m,em⟩:∃ m,m=(fnd (shwL L oj ps)).length:=⟨_,rfl⟩
       rw [← em] at cS s7 hsc
       have t9:((m:Int)<1)=False:=eq_false (by omega)
       have hmx:((max (lftN L ps os5 j) m:Nat):Int)=max ((lftN L ps os5 j:Nat):Int) (m:Int):=by omega
       unfold lacB at gcY eY2 gd7
       have hsp:=@Nat.succ_ne_zero;repeat' (first|simp (disch:=first|exact dqc|fail) only [go_sem,↓reduceIte,hsp,r76,r13,z6,z7,z8,z9,z11,z40,z74,z75,d4,d6,d7,d8,d9,d40,d43,q6,q7,q8,q9,q11,hlt3,ad,ldY,gcY,ex,e6,← eY2,gd7,cS,neB,ne_eq,eq_self,not_true,decide_false,t9]|refine WP_drw ?_|refine cnd_intro (fun hsp=>?_) fun hsp=>?_)
       exact ⟨agq,by omega,by rw [hsc,hmx],xY.trans (x6.trans x7)⟩
     ·rintro fr3 Y hA3 ⟨r76,r13,xY⟩
      have z6:=hA3 6 rfl
      have z7:=hA3 7 rfl
      have z8:=hA3 8 rfl
      have z9:=hA3 9 rfl
      have z11:=hA3 11 rfl
      have z40:=hA3 40 rfl
      have z74:=hA3 74 rfl
      have z75:=hA3 75 rfl
      try simp (disch:=first|exact dqc|fail) only [go_sem,↓reduceIte,q6,q7,q8,q9,q11] at z6 z7 z8 z9 z11 z40 z74 z75
      have hlt3:((os5.length:Int)<(os5.length:Int))=False:=eq_false (by omega)
      have hge:((((lftN L ps os5 os5.length:Nat):Int))<2)=False:=eq_false (by
       have:=few_left hok (ps:=ps) (by rw [hLn];exact hps) (by rw [hLn,← eos,← eD];exact cb)
       rw [hLn,← eos5] at this
       omega)
      have hsp:=@Nat.succ_ne_zero;repeat' (first|simp (disch:=first|exact dqc|fail) only [go_sem,↓reduceIte,hsp,r76,r13,z6,z7,z8,z9,z11,z40,z74,z75,d4,d6,d7,d8,d9,d40,d43,q6,q7,q8,q9,q11,r40,hlt3,hge]|refine WP_drw ?_|refine cnd_intro (fun hsp=>?_) fun hsp=>?_)
      exact ⟨agq,by omega,k2,by omega,(xX.trans x5).trans xY⟩
 ·rintro fr K hA ⟨r40,kq,hkq,xK⟩
  have q6:=hA 6 rfl
  have q7:=hA 7 rfl
  have q8:=hA 8 rfl
  have q9:=hA 9 rfl
  try simp (disch:=first|exact dqc|fail) only [go_sem,↓reduceIte] at q6 q7 q8 q9
  have hlt:(((4:Nat):Int)<4)=False:=eq_false (by omega)
  have hlt4:((4:Int)<4)=False:=eq_false (by omega)
  have haw:=fun base=>run_awake (base:=base) (h:=K)
  have hsp:=@Nat.succ_ne_zero;repeat' (first|simp (disch:=first|exact dqc|fail) only [go_sem,↓reduceIte,hsp,r40,q6,q7,q8,q9,hlt,hlt4,haw]|refine WP_drw ?_|refine cnd_intro (fun hsp=>?_) fun hsp=>?_)
  exact fB rfl ((hBh kq).trans xK)
end Go.AM
