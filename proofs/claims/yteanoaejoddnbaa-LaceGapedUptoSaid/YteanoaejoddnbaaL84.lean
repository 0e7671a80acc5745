/-
  LaceGaped, walked.
-/
import Derived.Test.YteanoaejoddnbaaU18
set_option linter.unusedSimpArgs false
set_option linter.unusedVariables false
namespace Go.AM
open Go.Proofs.Try
attribute [-go_sem] put_ne put_same
attribute [local go_sem ↓] put_if
theorem Own.app0 {α:Type} {E:Enc α} {P:Program} {base b:Nat} {h:Heap} {v x:AVal} {l:List α} {t e:TypeId} {zs:List AVal} (hO:Own E e b h v l) (hR:Rows E h x []) (ht:elS P t=some (e,E.z,zs)):appendA P base h t v x=some (v,h):=by
 have h1:=hR.lenA
 have h2:=hR.firstN
 simp only [flat_nil,List.length_nil] at h1 h2
 rcases hO with ⟨rfl,rfl⟩|⟨id,ver,rfl,g,_,_⟩
 ·simp only [appendA,ht,h1,h2,List.all_nil,if_true]
 ·have hst:storeN base h (ARef.add ⟨id,ver,0⟩ (l.length * E.z)) []=some h:=by
   have hid:=set_id g
   unfold rowE at g hid
   simp only [storeN,ARef.add,g,flat_len,List.length_nil,List.all_nil]
   rw [if_pos ⟨trivial,by omega,trivial,.inr trivial⟩]
   exact congrArg some hid
  simp only [appendA,ht,h1,h2,List.all_nil,if_true]
  rw [if_pos (by omega),hst]
  rfl
theorem gps_sub {L:Lac} {l:List Int} (hc:chkL L=0) (h1:l.Sublist (upto L.C.length)):gpsE L l=if l=[] then (0,4) else if (l.length:Int)-fittN L l<1 then (0,6) else ((l.length:Int)-fittN L l,0):=by
 obtain ⟨s1,s2⟩:=sub_upto.1 h1
 have hnd:l.Nodup:=s1.imp fun q=>by omega
 have u1:¬ (¬ (l.all fun x=>decide (0≤x∧x≤(L.C.length:Int)-1))=true):=fun q=>q (List.all_eq_true.2 fun x hx=>decide_eq_true (by have:=s2 x hx;omega))
 unfold gpsE
 rw [if_neg (by simp [hc]),if_neg u1]
 by_cases c:l=[]
 ·rw [if_pos (.inl c),if_pos c]
 ·have u2:¬ (l=[] ∨ sortB l=false ∨ twB l=true):=by
   rintro (q|q|q)
   ·exact c q
   ·rw [pair_sortB (s1.imp fun q=>by omega)] at q;cases q
   ·exact (of_decide_eq_true q) hnd
  rw [if_neg u2,if_neg c]
theorem fitsL_snoc {L:Lac} {l:List Int} {p:Int}:fitsL L (l++[p])=fitsL L l++fitL L p.toNat:=by
 unfold fitsL fitL fitN;rw [List.flatMap_append];simp
theorem fitsL_small {L:Lac} {l:List Int} (hn:L.C.length≤7) (hl:l.length≤7):Small (fitsL L l)∧(fitsL L l).length≤49:=by
 have h:=fitsL_len (L:=L) (gap:=l)
 have:l.length * L.C.length≤7 * 7:=Nat.mul_le_mul hl hn
 exact ⟨⟨by omega,fun x hx=>by have:=fitsL_bd hx;omega⟩,by omega⟩
structure Gpd (h K:Heap) (b:Nat) (v0 v1:AVal) (l0 l1:List Int) (T:Int) (C o:List Int) (cv ov:AVal) (kq:Nat) (rw':AVal) (Ri:List Rw3) (i:Nat):Prop where
 fs:K[h.length]?=some (spB v0 l0 kq)
 fq:K[h.length+1]?=some (spB v1 l1 0)
 fk:kq≤1000+10 * i
 ext:Ext h K
 fb:h.length+2≤b∧b<K.length
 fg:K[b]?=some (lacB T cv rw')
 oC:OwnE encI 3 (h.length+2) K cv C
 oO:OwnE encI 3 (h.length+2) K ov o
 oR:OwnE encR 70 (h.length+2) K rw' Ri
 ok:LacOk ⟨T,C,Ri⟩
 rl:Ri.length≤i
theorem stL84 {base:Nat} {l:List Oper} {s:St} {Q:AExit→St→Prop}:WP prog raw base (.region 7 l.toArray true) s Q=WPS prog raw base (.region 7 l.toArray true) s Q:=WP_stop
attribute [local go_sem ↓ 3000] stL84
set_option maxRecDepth 100000 in
set_option maxHeartbeats 20000000 in
theorem run_LaceGaped {base:Nat} {h:Heap} {v0 v1:AVal} {l0 l1:List Int} (hB0:Bytes h v0 l0) (hB1:Bytes h v1 l1) :
  callL prog raw base (.fn 17 [] []) [v0,v1] h=some (.bool true,h):=by
 have o0:=hB0.one
 have o1:=hB1.one
 have hw0:=run_wound (base:=h.length) hB0
 have hw1:=run_wound (base:=h.length) (hB1.ext (.app (t:=[spB v0 l0 0]) .refl))
 rw [show (h++[spB v0 l0 0]).length=h.length+1 by simp] at hw1
 obtain ⟨G,eG⟩:∃ G,G=h++[spB v0 l0 0]++[spB v1 l1 0]:=⟨_,rfl⟩
 have lG:G.length=h.length+2:=by rw [eG];simp
 have xG:Ext h G:=by rw [eG];exact .app (.app .refl)
 have hS:SpAt G h.length v0 l0 0:=by rw [eG];exact (SpAt.new hB0 rfl).app
 have hQ:G[h.length+1]?=some (spB v1 l1 0):=by rw [eG];exact get_eq (by simp)
 have hv0:∀ r n c,v0=.slice (some r) n c→r.id ≠ h.length:=fun r n c q=>by have:=hB0.low r n c q;omega
 have hv1:∀ r n c,v1=.slice (some r) n c→r.id ≠ h.length+1:=fun r n c q=>by have:=hB1.low r n c q;omega
 obtain ⟨_,H1,e1,T,C,o,cv,ov,k,rfl,hk,S1,oC,oO,mk0,hoC⟩:=run_Made (base:=h.length) (N:=7) (by omega) hS (by omega) (by omega)
 rw [show (((7:Nat):Int))=7 from rfl] at e1
 have ocv:=oC.one
 have oov:=oO.one
 have l1':=S1.len
 have hTb:=mk0.tb
 have hcl:=mk0.n
 obtain ⟨B,eB⟩:∃ B,B=H1++[lacB T cv (.slice none 0 0)]:=⟨_,rfl⟩
 have xB:Ext H1 B:=by rw [eB];exact .app .refl
 have lB0:B.length=H1.length+1:=by rw [eB];simp
 have gB:B[H1.length]?=some (lacB T cv (.slice none 0 0)):=by rw [eB];exact get_eq rfl
 have SB:=(S1.ext xB).at hS
 have eu:=fun base=>run_upto (base:=base) (n:=10) SB (by omega) (by omega)
 have ub:=up_bd (silk:=l0) (k:=k) (n:=10) (by omega)
 obtain ⟨m,em⟩:=Int.eq_ofNat_of_zero_le ub.1
 rw [em] at eu ub
 obtain ⟨B1,eB1⟩:∃ B1,B1=B.set h.length (spB v0 l0 (k+1)):=⟨_,rfl⟩
 rw [← eB1] at eu
 have lB1:B1.length=B.length:=by rw [eB1,List.length_set]
 have hBx:Ext h B:=(S1.ext xB).on xG (Nat.le_refl _)
 obtain ⟨n,en⟩:∃ n,n=C.length:=⟨_,rfl⟩
 rw [← en] at hcl hoC
 have F0:Gpd h B1 H1.length v0 v1 l0 l1 T C o cv ov (k+1) (.slice none 0 0) [] 0:=by
  have mv:∀ {α:Type} {E:Enc α} {e:TypeId} {v:AVal} {l:List α},OwnE E e G.length H1 v l→OwnE E e (h.length+2) B1 v l:=fun {α E e v l} y=>by
   rw [eB1];exact ((y.ext xB).setBox SB.1).low (by omega)
  refine ⟨by rw [eB1,List.getElem?_set_self (by omega)],by rw [eB1,List.getElem?_set_ne (by omega)];exact (S1.ext xB).get (by omega) hQ,by omega,by rw [eB1];exact hBx.set (Nat.le_refl _),⟨by omega,by omega⟩,by rw [eB1,List.getElem?_set_ne (by omega)];exact gB,mv (.inl oC),mv oO,.inl Own.nil,?_,by simp⟩
  exact mk0.lac (R:=[]) (o:=o) (by omega) (by simp) (by simp)
 unfold lacB at eB gB
 refine callL_run func17 rfl rfl ?_
 have hsp:=@Nat.succ_ne_zero;repeat' (first|simp (disch:=first|exact dqc|fail) only [go_sem,↓reduceIte,hsp,hw0,hw1,← eG,e1,← eB,gB,eu]|refine WP_drw ?_|refine cnd_intro (fun hsp=>?_) fun hsp=>?_)
 refine WP_count [(9,9),(31,54)] 0 m (Nat.zero_le _) (fun _ i fr K=>fr 31=.int .i64 (i:Int)∧∃ kq rw1 Ri,Gpd h K H1.length v0 v1 l0 l1 T C o cv ov kq rw1 Ri i) ?_ ?_ ?_
 ·exact ⟨by (simp (disch:=first|exact dqc|fail) only [go_sem,↓reduceIte,Int.natCast_zero];first|done|rfl),_,_,_,F0⟩
 ·rintro i fr Z hi0 hi hA ⟨r31,kq,rw1,Ri,F⟩
  have q4:=hA 4 rfl
  have q5:=hA 5 rfl
  have q6:=hA 6 rfl
  have q7:=hA 7 rfl
  have q8:=hA 8 rfl
  have q30:=hA 30 rfl
  try simp (disch:=first|exact dqc|fail) only [go_sem,↓reduceIte] at q4 q5 q6 q7 q8 q30
  have hlt:((i:Int)<(m:Int))=True:=eq_true (by omega)
  have lZ:=F.fb
  have hkq:=F.fk
  have hRi:=F.rl
  have orw1:=F.oR.one
  have hZ:=F.ext
  have hhZ:=hZ.len
  have gbZ:=F.fg
  have hSZ:SpAt Z h.length v0 l0 kq:=⟨F.fs,hB0.ext hZ,hv0⟩
  obtain ⟨r,er,hr⟩:=run_Seen hSZ (by omega) (F.oC.low (Nat.zero_le _)) orw1 (F.oO.low (Nat.zero_le _)) (by omega) hTb F.ok.c (by rw [← en];exact hoC) (by omega)
  obtain ⟨Z1,eZ1⟩:∃ Z1,Z1=Z.set h.length (spB v0 l0 (kq+4)):=⟨_,rfl⟩
  rw [← eZ1] at er
  have lZ1:Z1.length=Z.length:=by rw [eZ1,List.length_set]
  have gs1:Z1[h.length]?=some (spB v0 l0 (kq+4)):=by rw [eZ1,List.getElem?_set_self (by omega)]
  have gq1:Z1[h.length+1]?=some (spB v1 l1 0):=by rw [eZ1,List.getElem?_set_ne (by omega)];exact F.fq
  have gb1:Z1[H1.length]?=some (lacB T cv rw1):=by rw [eZ1,List.getElem?_set_ne (by omega)];exact gbZ
  have hZ1:Ext h Z1:=by rw [eZ1];exact hZ.set (Nat.le_refl _)
  obtain ⟨Z2,eZ2⟩:∃ Z2,Z2=Z1++[rwB r]:=⟨_,rfl⟩
  have lZ2:Z2.length=Z.length+1:=by rw [eZ2];simp [lZ1]
  have x12:Ext Z1 Z2:=by rw [eZ2];exact .app .refl
  have gr2:Z2[Z1.length]?=some (rwB r):=by rw [eZ2];exact get_eq rfl
  obtain ⟨k1,k2,k3,k4⟩:=hr
  have eo:=fun base=>run_once (base:=base) (n:=4) (show SpAt Z2 h.length v0 l0 (kq+4) from ⟨x12.get gs1,hB0.ext (hZ1.trans x12),hv0⟩) (by omega) (by omega)
  obtain ⟨Z3,eZ3⟩:∃ Z3,Z3=Z2.set h.length (spB v0 l0 (kq+4+1)):=⟨_,rfl⟩
  rw [← eZ3] at eo
  have lZ3:Z3.length=Z.length+1:=by rw [eZ3,List.length_set,lZ2]
  have gr3:Z3[Z1.length]?=some (rwB r):=by rw [eZ3,List.getElem?_set_ne (by omega)];exact gr2
  have gs3:Z3[h.length]?=some (spB v0 l0 (kq+4+1)):=by rw [eZ3,List.getElem?_set_self (by omega)]
  have gb3:Z3[H1.length]?=some (lacB T cv rw1):=by rw [eZ3,List.getElem?_set_ne (by omega)];exact x12.get gb1
  have gq3:Z3[h.length+1]?=some (spB v1 l1 0):=by rw [eZ3,List.getElem?_set_ne (by omega)];exact x12.get gq1
  have hZ3:Ext h Z3:=by rw [eZ3];exact (hZ1.trans x12).set (Nat.le_refl _)
  obtain ⟨mk,emk⟩:=Int.eq_ofNat_of_zero_le k2.1
  obtain ⟨sw,esw⟩:=Int.eq_ofNat_of_zero_le k3
  obtain ⟨hw1',hw2'⟩:=pow_le8 hTb
  have hsw:sw≤mk:=by rw [emk,esw,Int.toNat_natCast,Int.toNat_natCast] at k4;rw [← k4];exact Nat.and_le_right
  have rok:(0≤r.1∧r.1≤999)∧(0≤r.2.1∧r.2.1≤2 ^ T.toNat-1)∧(0≤r.2.2∧r.2.2≤2 ^ T.toNat-1)∧r.2.2.toNat &&& r.2.1.toNat=r.2.2.toNat:=by
   refine ⟨by omega,k2,by omega,?_⟩
   rw [← k4,Nat.and_assoc,Nat.and_self]
  have mv3:∀ {α:Type} {E:Enc α} {e:TypeId} {v:AVal} {l:List α},OwnE E e (h.length+2) Z v l→OwnE E e (h.length+2) Z3 v l:=fun {α E e v l} y=>by
   have y1:OwnE E e (h.length+2) Z1 v l:=by rw [eZ1];exact y.setBox F.fs
   rw [eZ3];exact (y1.ext x12).setBox (x12.get gs1)
  by_cases c:up l0 (kq+4) (4-1)=0
  ·rw [decide_eq_true c] at eo
   have ub:=up_bd (silk:=l0) (k:=kq+4+1) (n:=255) (by omega)
   have eu2:=fun base=>run_upto (base:=base) (n:=255) (show SpAt Z3 h.length v0 l0 (kq+4+1) from ⟨gs3,hB0.ext hZ3,hv0⟩) (by omega) (by omega)
   obtain ⟨x,ex⟩:=Int.eq_ofNat_of_zero_le ub.1
   rw [ex] at eu2 ub
   obtain ⟨Z4,eZ4⟩:∃ Z4,Z4=Z3.set h.length (spB v0 l0 (kq+4+1+1)):=⟨_,rfl⟩
   rw [← eZ4] at eu2
   have lZ4:Z4.length=Z.length+1:=by rw [eZ4,List.length_set,lZ3]
   have gr4:Z4[Z1.length]?=some (rwB r):=by rw [eZ4,List.getElem?_set_ne (by omega)];exact gr3
   have hma:mk &&& x≤mk:=Nat.and_le_left
   have an:=andN (t:=3) (a:=mk) (b:=x) (by omega) (by omega)
   have xo:=xorN (t:=3) (a:=sw) (b:=mk &&& x) (by omega) (by omega)
   obtain ⟨s',es'⟩:∃ s',s'=sw ^^^ (mk &&& x):=⟨_,rfl⟩
   rw [← es'] at xo
   obtain ⟨Z5,eZ5⟩:∃ Z5,Z5=Z4.set Z1.length (rwB (r.1,(mk:Int),(s':Int))):=⟨_,rfl⟩
   have lZ5:Z5.length=Z.length+1:=by rw [eZ5,List.length_set,lZ4]
   have gr5:Z5[Z1.length]?=some (rwB (r.1,(mk:Int),(s':Int))):=by rw [eZ5,List.getElem?_set_self (by omega)]
   have gs5:Z5[h.length]?=some (spB v0 l0 (kq+4+1+1)):=by rw [eZ5,List.getElem?_set_ne (by omega),eZ4,List.getElem?_set_self (by omega)]
   have gb5:Z5[H1.length]?=some (lacB T cv rw1):=by rw [eZ5,List.getElem?_set_ne (by omega),eZ4,List.getElem?_set_ne (by omega)];exact gb3
   have gq5:Z5[h.length+1]?=some (spB v1 l1 0):=by rw [eZ5,List.getElem?_set_ne (by omega),eZ4,List.getElem?_set_ne (by omega)];exact gq3
   have hZ5':Ext h (Z4.set Z1.length (rwB (r.1,(mk:Int),(s':Int)))):=by rw [eZ4];exact (hZ3.set (Nat.le_refl _)).set (by omega)
   have mvI:∀ {α:Type} {E:Enc α} {e:TypeId} {v:AVal} {l:List α},OwnE E e (h.length+2) Z v l→OwnE E e (h.length+2) Z5 v l:=fun {α E e v l} y=>by
    have y4:OwnE E e (h.length+2) Z4 v l:=by rw [eZ4];exact (mv3 y).setBox gs3
    rw [eZ5];exact y4.setBox gr4
   have hok':=wrong_row (L:=⟨T,C,Ri⟩) (x:=x) rok F.ok (by simp only;omega)
   rw [emk,esw,Int.toNat_natCast,Int.toNat_natCast,← es'] at hok'
   obtain ⟨ke,eke⟩:∃ ke,ke=kq+4+1+1:=⟨_,rfl⟩
   rw [← eke] at gs5
   have hZ5:Ext h Z5:=by rw [eZ5];exact hZ5'
   obtain ⟨w',Z6,ea,oW,lW,eW6,oneW,kW⟩:=snocR (base:=h.length) (r:=(r.1,(mk:Int),(s':Int))) (mvI F.oR) (by omega) (by omega) (by omega)
   have gb6:=kW.box gb5
   have gs6:=kW.box gs5
   have gq6:=kW.box gq5
   have hZ6:Ext h Z6:=eW6 _ (by omega) hZ5
   have bs:∀ {lit:Bool},bsA prog lit Z5 42 1 [(0,.agg [.int .i64 r.1,.int .i64 (mk:Int),.int .i64 (s':Int)])]=some (.slice (some ⟨Z5.length,0,0⟩) 1 1,Z5++[rowE encR 70 [(r.1,(mk:Int),(s':Int))] 0]):=fun {lit}=>bsR1 (r:=(r.1,(mk:Int),(s':Int)))
   have nxt:Gpd h (Z6.set H1.length (lacB T cv w')) H1.length v0 v1 l0 l1 T C o cv ov ke w' (Ri++[(r.1,(mk:Int),(s':Int))]) (i+1) :=
    ⟨by rw [List.getElem?_set_ne (by omega)];exact gs6,by rw [List.getElem?_set_ne (by omega)];exact gq6,by omega,hZ6.set (by omega),⟨F.fb.1,by rw [List.length_set];omega⟩,by rw [List.getElem?_set_self (by omega)],(kW.ownE (mvI F.oC) (by decide)).setBox gb6,(kW.ownE (mvI F.oO) (by decide)).setBox gb6,OwnE.setBox (.inl oW) gb6,hok',by simp;omega⟩
   unfold lacB at gbZ gb3 gb5 gb6
   unfold rwB at eZ2 gr2 gr3 gr4 eZ5 gr5
   rw [emk,esw] at er eZ2 gr2 gr3 gr4
   have hsp:=@Nat.succ_ne_zero;repeat' (first|simp (disch:=first|exact dqc|fail) only [go_sem,↓reduceIte,hsp,r31,q4,q5,q6,q7,q8,q30,hlt,gbZ,er,← eZ2,eo]|refine WP_drw ?_|refine cnd_intro (fun hsp=>?_) fun hsp=>?_)
   refine WPS_go ?_
   refine WP_wild [⟨1,3,39,⟨Z1.length,0,2⟩,.int .i64 (sw:Int),9⟩,⟨3,3,41,⟨Z1.length,0,1⟩,.int .i64 (mk:Int),9⟩] (by kernel_rfl) (by kernel_rfl) (by kernel_rfl) ⟨refsLow_int,refsLow_int,trivial⟩ fun K9 hK=>?_
   iterate 10
    rw [TRS_cons]
    refine ⟨by first|(simp (disch:=first|exact dqc|fail) only [go_sem,↓reduceIte,gr3,q4,q5,q6,q7,q8,q30,eu2,gr4,an,xo,← eZ5,ldsQ_cons,ldsQ_nil,grdQ_cons,grdQ_nil,if_true,Nat.reduceLeDiff];done)|exact trivial,?_⟩
    simp (disch:=first|exact dqc|fail) only [go_sem,↓reduceIte,gr3,q4,q5,q6,q7,q8,q30,eu2,gr4,an,xo,← eZ5]
   rw [TRS_nil]
   refine ⟨by first|(simp (disch:=first|exact dqc|fail) only [go_sem,↓reduceIte,gr3,q4,q5,q6,q7,q8,q30,eu2,gr4,an,xo,← eZ5,ldsQ_cons,ldsQ_nil,grdQ_cons,grdQ_nil,if_true,Nat.reduceLeDiff];done)|exact trivial,?_⟩
   subst hK
   have hsp:=@Nat.succ_ne_zero;repeat' (first|simp (disch:=first|exact dqc|fail) only [go_sem,↓reduceIte,hsp,r31,q4,q5,q6,q7,q8,q30,gb5,gr5,bs,ea,gb6]|refine WP_drw ?_|refine cnd_intro (fun hsp=>?_) fun hsp=>?_)
   exact ⟨agq,by omega,_,_,_,nxt⟩
  ·rw [decide_eq_false c] at eo
   obtain ⟨Z5,eZ5⟩:∃ Z5,Z5=Z3:=⟨_,rfl⟩
   have lZ5:Z5.length=Z.length+1:=by rw [eZ5,lZ3]
   obtain ⟨s',es'⟩:∃ s',s'=sw:=⟨_,rfl⟩
   have gr5:Z5[Z1.length]?=some (rwB (r.1,(mk:Int),(s':Int))):=by rw [eZ5,gr3,es',← esw,← emk]
   have gs5:Z5[h.length]?=some (spB v0 l0 (kq+4+1)):=by rw [eZ5];exact gs3
   have gb5:Z5[H1.length]?=some (lacB T cv rw1):=by rw [eZ5];exact gb3
   have gq5:Z5[h.length+1]?=some (spB v1 l1 0):=by rw [eZ5];exact gq3
   have hZ5':Ext h Z3:=hZ3
   have mvI:∀ {α:Type} {E:Enc α} {e:TypeId} {v:AVal} {l:List α},OwnE E e (h.length+2) Z v l→OwnE E e (h.length+2) Z5 v l:=fun {α E e v l} y=>by rw [eZ5];exact mv3 y
   have hok':=wrong_row (L:=⟨T,C,Ri⟩) (x:=0) rok F.ok (by simp only;omega)
   rw [emk,esw,Int.toNat_natCast,Int.toNat_natCast,Nat.and_zero,Nat.xor_zero,← es'] at hok'
   obtain ⟨ke,eke⟩:∃ ke,ke=kq+4+1:=⟨_,rfl⟩
   rw [← eke] at gs5
   have hZ5:Ext h Z5:=by rw [eZ5];exact hZ5'
   obtain ⟨w',Z6,ea,oW,lW,eW6,oneW,kW⟩:=snocR (base:=h.length) (r:=(r.1,(mk:Int),(s':Int))) (mvI F.oR) (by omega) (by omega) (by omega)
   have gb6:=kW.box gb5
   have gs6:=kW.box gs5
   have gq6:=kW.box gq5
   have hZ6:Ext h Z6:=eW6 _ (by omega) hZ5
   have bs:∀ {lit:Bool},bsA prog lit Z5 42 1 [(0,.agg [.int .i64 r.1,.int .i64 (mk:Int),.int .i64 (s':Int)])]=some (.slice (some ⟨Z5.length,0,0⟩) 1 1,Z5++[rowE encR 70 [(r.1,(mk:Int),(s':Int))] 0]):=fun {lit}=>bsR1 (r:=(r.1,(mk:Int),(s':Int)))
   have nxt:Gpd h (Z6.set H1.length (lacB T cv w')) H1.length v0 v1 l0 l1 T C o cv ov ke w' (Ri++[(r.1,(mk:Int),(s':Int))]) (i+1) :=
    ⟨by rw [List.getElem?_set_ne (by omega)];exact gs6,by rw [List.getElem?_set_ne (by omega)];exact gq6,by omega,hZ6.set (by omega),⟨F.fb.1,by rw [List.length_set];omega⟩,by rw [List.getElem?_set_self (by omega)],(kW.ownE (mvI F.oC) (by decide)).setBox gb6,(kW.ownE (mvI F.oO) (by decide)).setBox gb6,OwnE.setBox (.inl oW) gb6,hok',by simp;omega⟩
   unfold lacB at gbZ gb3 gb5 gb6
   unfold rwB at eZ2 gr2 gr5
   rw [emk,esw] at er eZ2 gr2
   rw [← eZ5] at eo
   have hsp:=@Nat.succ_ne_zero;repeat' (first|simp (disch:=first|exact dqc|fail) only [go_sem,↓reduceIte,hsp,r31,q4,q5,q6,q7,q8,q30,hlt,gbZ,er,← eZ2,eo,gb5,gr5,bs,ea,gb6]|refine WP_drw ?_|refine cnd_intro (fun hsp=>?_) fun hsp=>?_)
   exact ⟨agq,by omega,_,_,_,nxt⟩
 ·rintro fr K hA ⟨r31,kq0,rw1,Ri,F⟩
  have q4:=hA 4 rfl
  have q5:=hA 5 rfl
  have q6:=hA 6 rfl
  have q7:=hA 7 rfl
  have q8:=hA 8 rfl
  have q30:=hA 30 rfl
  try simp (disch:=first|exact dqc|fail) only [go_sem,↓reduceIte] at q4 q5 q6 q7 q8 q30
  have hlt:((m:Int)<(m:Int))=False:=eq_false (by omega)
  have lK0:=F.fb
  have hRi:=F.rl
  have orw1:=F.oR.one
  obtain ⟨L,eL⟩:∃ L:Lac,L=⟨T,C,Ri⟩:=⟨_,rfl⟩
  have hLn:L.C.length=n:=by rw [eL,en]
  have hok:LacOk L:=by rw [eL];exact F.ok
  have hc:chkL L=0:=chkL_iff.2 hok
  have hCs:Small C:=by have:=lac_small hc;rw [eL] at this;exact this
  have aL:LacAt K (.agg [.int .i64 T,cv,rw1]) L:=by
   rw [eL];exact ⟨cv,rw1,rfl,ownE_ints F.oC hCs,F.oR.rows (by omega)⟩
  have gK:=F.fg
  have cL:=fun base=>run_Count (base:=base) aL
  rw [cnt_ok hc] at cL
  have cC:=fun base=>run_Check (base:=base) aL
  rw [hc] at cC
  obtain ⟨Bq,eBq⟩:∃ Bq:Nat→Heap,Bq=fun k=>K.set (h.length+1) (spB v1 l1 k):=⟨_,rfl⟩
  have lBq:∀ k,(Bq k).length=K.length:=fun k=>by rw [eBq];simp
  have qBq:∀ k,(Bq k)[h.length+1]?=some (spB v1 l1 k):=fun k=>by rw [eBq];show (K.set _ _)[_]?=_;rw [List.getElem?_set_self (by omega)]
  have gBq:∀ k,(Bq k)[H1.length]?=some (lacB T cv rw1):=fun k=>by rw [eBq];show (K.set _ _)[_]?=_;rw [List.getElem?_set_ne (by omega)];exact gK
  have hBh:∀ k,Ext h (Bq k):=fun k=>by rw [eBq];exact F.ext.set (by omega)
  have mvB:∀ {α:Type} {E:Enc α} {e:TypeId} {b:Nat} {v:AVal} {l:List α} (k),OwnE E e b K v l→OwnE E e b (Bq k) v l:=fun k y=>by rw [eBq];exact y.setBox F.fq
  have aB:∀ k,LacAt (Bq k) (.agg [.int .i64 T,cv,rw1]) L:=fun k=>by
   rw [eL]
   exact ⟨cv,rw1,rfl,ownE_ints (mvB k F.oC) hCs,(mvB k F.oR).rows (by omega)⟩
  have iOB:∀ k,Ints (Bq k) ov o:=fun k=>ownE_ints (mvB k F.oO) (ord_small hoC (by omega))
  have stB:∀ {X:Heap} {k k':Nat},Ext (Bq k) X→Ext (Bq k') (X.set (h.length+1) (spB v1 l1 k')):=fun {X k k'} e=>by
   have:=e.set2 (i:=h.length+1) (k:=spB v1 l1 k') (by rw [lBq];omega)
   rw [eBq] at this ⊢
   simpa [List.set_set] using this
  have x0:Ext (Bq 0) K:=by
   rw [eBq];show Ext (K.set _ _) _;rw [set_id F.fq];exact .refl
  have gK':=gK
  unfold lacB at gK'
  have hsp:=@Nat.succ_ne_zero;repeat' (first|simp (disch:=first|exact dqc|fail) only [go_sem,↓reduceIte,hsp,r31,q4,q5,q6,q7,q8,q30,hlt,gK',cL,cC,neB,ne_eq,eq_self,not_true,decide_false]|refine WP_drw ?_|refine cnd_intro (fun hsp=>?_) fun hsp=>?_)
  refine WP_count [(4,4),(12,132)] 0 6 (Nat.zero_le _) (fun _ i fr X=>fr 67=.int .i64 (i:Int)∧∃ kq,kq≤7 * i∧Ext (Bq kq) X) ?_ ?_ ?_
  ·exact ⟨by (simp (disch:=first|exact dqc|fail) only [go_sem,↓reduceIte,Int.natCast_zero];first|done|rfl),0,by omega,x0⟩
  ·rintro i fr2 K2 hi0 hi hA2 ⟨r67,kq,hkq,xK⟩
   have d6:=hA2 6 rfl
   have d7:=hA2 7 rfl
   have d8:=hA2 8 rfl
   have d10:=hA2 10 rfl
   try simp (disch:=first|exact dqc|fail) only [go_sem,↓reduceIte,q6,q7,q8] at d6 d7 d8 d10
   have hlt2:((i:Int)<6)=True:=eq_true (by omega)
   have lK:=xK.len
   rw [lBq] at lK
   have lO:=lenI ((iOB kq).ext xK)
   rw [hoC.1] at lO
   have hsp:=@Nat.succ_ne_zero;repeat' (first|simp (disch:=first|exact dqc|fail) only [go_sem,↓reduceIte,hsp,r67,d6,d7,d8,d10,q4,q5,q6,q7,q8,q30,hlt2,lO]|refine WP_drw ?_|refine cnd_intro (fun hsp=>?_) fun hsp=>?_)
   refine WP_count [(4,4),(12,16),(71,91)] 0 n (Nat.zero_le _) (fun _ p fr X=>fr 71=.int .i64 (p:Int)∧∃ k2,k2≤kq+p∧Ext (Bq k2) X∧∃ v w ps,fr 12=v∧fr 13=w∧Own encI 3 K.length X v ps∧Own encI 3 K.length X w (fitsL L ps)∧Asun v w∧ps.Sublist (upto p)) ?_ ?_ ?_
   ·exact ⟨by (simp (disch:=first|exact dqc|fail) only [go_sem,↓reduceIte,Int.natCast_zero];first|done|rfl),kq,by omega,xK,.slice none 0 0,.slice none 0 0,[],by simp (disch:=first|exact dqc|fail) only [go_sem,↓reduceIte],by simp (disch:=first|exact dqc|fail) only [go_sem,↓reduceIte],Own.nil,Own.nil,Asun.nil,List.nil_sublist _⟩
   ·rintro p fr3 X hp0 hp hA3 ⟨r71,k2,hk2,xX,v,w,ps,r12,r13,oV,oW,hvw,hps⟩
    have z6:=hA3 6 rfl
    have z7:=hA3 7 rfl
    have z8:=hA3 8 rfl
    have z10:=hA3 10 rfl
    have z67:=hA3 67 rfl
    have z70:=hA3 70 rfl
    try simp (disch:=first|exact dqc|fail) only [go_sem,↓reduceIte,d6,d7,d8,d10] at z6 z7 z8 z10 z67 z70
    have hlt3:((p:Int)<(n:Int))=True:=eq_true (by omega)
    have ov1:=oV.one
    have ow1:=oW.one
    have lX:=xX.len
    rw [lBq] at lX
    have hXh:=(hBh k2).trans xX
    have lhX:=hXh.len
    have ho:=fun base=>run_once (base:=base) (n:=2) (show SpAt X (h.length+1) v1 l1 k2 from ⟨xX.get (qBq k2),hB1.ext hXh,hv1⟩) (by omega) (by omega)
    obtain ⟨X1,eX1⟩:∃ X1,X1=X.set (h.length+1) (spB v1 l1 (k2+1)):=⟨_,rfl⟩
    rw [← eX1] at ho
    have x1:Ext (Bq (k2+1)) X1:=by rw [eX1];exact stB xX
    have oV1:Own encI 3 K.length X1 v ps:=by rw [eX1];exact oV.setBox (xX.get (qBq k2))
    have oW1:Own encI 3 K.length X1 w (fitsL L ps):=by rw [eX1];exact oW.setBox (xX.get (qBq k2))
    have lX1:X1.length=X.length:=by rw [eX1];simp
    have hpl:=sub_len hps
    by_cases c:up l1 k2 (2-1)=0
    ·rw [decide_eq_true c] at ho
     have ea1:=app_sn1 (P:=prog) (base:=h.length) (y:=(p:Int)) (a:=.int .i64 (p:Int)) (t:=25) oV1 rfl rfl Fc.el25 encI_sc (by omega) (by omega)
     obtain ⟨X2,eX2⟩:∃ X2,X2=snH encI 3 X1 v ps [(p:Int)]:=⟨_,rfl⟩
     obtain ⟨v',ev'⟩:∃ v',v'=snV X1 v 1:=⟨_,rfl⟩
     have oV2:Own encI 3 K.length X2 v' (ps++[(p:Int)]):=by rw [eX2,ev'];exact oV1.sn (m:=[(p:Int)]) (by omega) (by simp)
     have oW2:Own encI 3 K.length X2 w (fitsL L ps):=by rw [eX2];exact oW1.sn_oth hvw
     have as2:Asun v' w:=by rw [ev'];exact oW1.sn_asun hvw
     have x2:Ext (Bq (k2+1)) X2:=by rw [eX2];exact oV1.sn_ext (by rw [lBq];exact Nat.le_refl _) x1
     rw [← eX2,← ev'] at ea1
     have ov2:=oV2.one
     have lX2:=x2.len
     rw [lBq] at lX2
     obtain ⟨_,X3,e3,x3,fv,rfl,oF⟩:=run_Fit (base:=h.length) (h:=X2) (p:=(p:Int)) (by omega) ((aB (k2+1)).ext x2)
     have efit:fitE L (p:Int)=(fitL L p,0):=by
      unfold fitE
      rw [if_neg (by simp [hc]),if_neg (by omega),Int.toNat_natCast]
     rw [efit] at e3 oF
     have oF:Own encI 3 X2.length X3 fv (fitL L p):=oF
     have ofv:=oF.one
     have lX3:=x3.len
     have gc2:=x2.get (gBq (k2+1))
     unfold lacB at gc2
     have fsn:fitsL L (ps++[(p:Int)])=fitsL L ps++fitL L p:=by rw [fitsL_snoc,Int.toNat_natCast]
     have hfl:=fitN_len (L:=L) (p:=p) (k:=L.C.length)
     have hfl:(fitL L p).length≤L.C.length:=hfl
     obtain ⟨hfs1,hfs2⟩:=fitsL_small (L:=L) (l:=ps) (by omega) (by omega)
     have oW3:=oW2.ext x3
     have oV3:=oV2.ext x3
     by_cases c0:fitL L p=[]
     ·have ea2:=oW3.app0 (P:=prog) (base:=h.length) (t:=25) (by have:=oF.rows (by rw [c0];simp);rwa [c0] at this) Fc.el25
      rw [c0,List.append_nil] at fsn
      have hsp:=@Nat.succ_ne_zero;repeat' (first|simp (disch:=first|exact dqc|fail) only [go_sem,↓reduceIte,hsp,r71,r12,r13,z6,z7,z8,z10,z67,z70,d6,d7,d8,d10,q4,q5,q6,q7,q8,q30,hlt3,ho,ea1,gc2,e3,neB,ne_eq,eq_self,not_true,decide_false,ea2]|refine WP_drw ?_|refine cnd_intro (fun hsp=>?_) fun hsp=>?_)
      exact ⟨agq,by omega,k2+1,by omega,x2.trans x3,v',w,_,rfl,rfl,oV3,by rw [fsn];exact oW3,as2,sub_upto2 hps⟩
     ·have hpos:0<(fitL L p).length:=List.length_pos_iff.2 c0
      have ea2:=app_snR (P:=prog) (base:=h.length) (t:=25) oW3 (oF.rows (by omega)) Fc.el25 encI_sc (by omega) hpos (by omega)
      obtain ⟨X4,eX4⟩:∃ X4,X4=snH encI 3 X3 w (fitsL L ps) (fitL L p):=⟨_,rfl⟩
      obtain ⟨w',ew'⟩:∃ w',w'=snV X3 w (fitL L p).length:=⟨_,rfl⟩
      have oW4:Own encI 3 K.length X4 w' (fitsL L ps++fitL L p):=by rw [eX4,ew'];exact oW3.sn (by omega) hpos
      have oV4:Own encI 3 K.length X4 v' (ps++[(p:Int)]):=by rw [eX4];exact oV3.sn_oth as2.symm
      have as4:Asun v' w':=by rw [ew'];exact (oV3.sn_asun as2.symm).symm
      have x4:Ext (Bq (k2+1)) X4:=by rw [eX4];exact oW3.sn_ext (by rw [lBq];exact Nat.le_refl _) (x2.trans x3)
      rw [← eX4,← ew'] at ea2
      have ow4:=oW4.one
      have hsp:=@Nat.succ_ne_zero;repeat' (first|simp (disch:=first|exact dqc|fail) only [go_sem,↓reduceIte,hsp,r71,r12,r13,z6,z7,z8,z10,z67,z70,d6,d7,d8,d10,q4,q5,q6,q7,q8,q30,hlt3,ho,ea1,gc2,e3,neB,ne_eq,eq_self,not_true,decide_false,ea2]|refine WP_drw ?_|refine cnd_intro (fun hsp=>?_) fun hsp=>?_)
      exact ⟨agq,by omega,k2+1,by omega,x4,v',w',_,rfl,rfl,oV4,by rw [fsn];exact oW4,as4,sub_upto2 hps⟩
    ·rw [decide_eq_false c] at ho
     have hsp:=@Nat.succ_ne_zero;repeat' (first|simp (disch:=first|exact dqc|fail) only [go_sem,↓reduceIte,hsp,r71,r12,r13,z6,z7,z8,z10,z67,z70,d6,d7,d8,d10,q4,q5,q6,q7,q8,q30,hlt3,ho]|refine WP_drw ?_|refine cnd_intro (fun hsp=>?_) fun hsp=>?_)
     exact ⟨agq,by omega,k2+1,by omega,x1,v,w,ps,rfl,rfl,oV1,oW1,hvw,sub_upto1 hps⟩
   ·rintro fr3 X hA3 ⟨r71,k2,hk2,xX,v,w,ps,r12,r13,oV,oW,hvw,hps⟩
    have z6:=hA3 6 rfl
    have z7:=hA3 7 rfl
    have z8:=hA3 8 rfl
    have z10:=hA3 10 rfl
    have z67:=hA3 67 rfl
    have z70:=hA3 70 rfl
    try simp (disch:=first|exact dqc|fail) only [go_sem,↓reduceIte,d6,d7,d8,d10] at z6 z7 z8 z10 z67 z70
    have hlt3:((n:Int)<(n:Int))=False:=eq_false (by omega)
    have ov1:=oV.one
    have ow1:=oW.one
    have lX:=xX.len
    rw [lBq] at lX
    have lhB:=(hBh k2).len
    have hpl:=sub_len hps
    have hps':ps.Sublist (upto L.C.length):=by rw [hLn];exact hps
    obtain ⟨hfs1,hfs2⟩:=fitsL_small (L:=L) (l:=ps) (by omega) (by omega)
    have hpin:∀ p ∈ ps,0≤p∧p<(n:Int):=fun p hp=>upto_mem.1 (hps.subset hp)
    have hpS:Small ps:=⟨by omega,fun x hx=>by have:=hpin x hx;omega⟩
    have hgp:=gps_sub hc hps'
    obtain ⟨cs,ecs⟩:∃ cs,cs=fitsL L ps:=⟨_,rfl⟩
    have hcnt:=fitsL_count (L:=L) (gap:=ps) (m:=srtL cs) (by rw [ecs];exact srtL_perm) srtL_sorted
    have hft:fittN L ps≤7:=Nat.le_trans (List.length_filter_le _ _) (by rw [upto_len];omega)
    have hgf:fittN L ps<ps.length→fnd L=[]:=gap_fnd hps'
    rw [← ecs] at oW hfs1 hfs2
    obtain ⟨Y,cw,D,eS,eC,eD,xY,iPY⟩:∃ Y cw Y2,callL prog raw h.length (.fn 86 [] []) [w] X=some (.tuple [],Y)∧callL prog raw h.length (.fn 87 [] []) [w] Y=some (cw,Y2)∧(One cw∧lenOpA prog Y2 25 cw=some (.int .i64 (fittN L ps:Int))∧Ext (Bq k2) Y2∧Ints Y2 v ps)∧Ext (Bq k2) Y∧Ints Y v ps:=by
     rcases oW with ⟨rfl,hn⟩|⟨id,ver,rfl,g,hid,h0⟩
     ·obtain ⟨cw,Y2,e2,q1,q2⟩:=run_compact0 (base:=h.length) (h:=X) (v:=.slice none 0 0) (l:=[]) ints_nil (by simp)
      rw [q1,q2] at e2
      have h0:fittN L ps=0:=by
       have hs0:srtL ([]:List Int)=[]:=by simp [srtL]
       rw [← hcnt,hn,hs0];rfl
      refine ⟨X,.slice none 0 0,X,run_sort0,e2,⟨⟨rfl,rfl,rfl⟩,?_,xX,own_ints oV hpS⟩,xX,own_ints oV hpS⟩
      rw [h0];simp [lenOpA,Fc.el25,lenA]
     ·have g':X[id]?=some (rowB cs ver):=by rw [g,rowE_iB];rfl
      have e1:=run_sortR (base:=h.length) g' (by omega) h0
      have hid2:=lt_of_get g'
      obtain ⟨Y,eY⟩:∃ Y,Y=X.set id (rowB (srtL cs) ver):=⟨_,rfl⟩
      have gY:Y[id]?=some (rowB (srtL cs) ver):=by rw [eY,List.getElem?_set_self hid2]
      have hsl:(srtL cs).length=cs.length:=srtL_len
      obtain ⟨cw,Y2,e2,m2,rfl,eY2,hm2⟩:=run_compactN (base:=h.length) gY ⟨by rw [hsl];exact hfs1.1,fun x hx=>hfs1.2 x (srtL_perm.mem_iff.1 hx)⟩
      rw [hcnt,hsl] at e2
      rw [← eY] at e1
      have st:∀ {Z:Heap} {b:ABlk},Own encI 3 K.length Z v ps→Own encI 3 K.length (Z.set id b) v ps:=fun {Z b} y=>by
       rcases y with q|⟨i2,ver2,rfl,g2,q1,q2⟩
       ·exact .inl q
       ·exact .inr ⟨i2,ver2,rfl,by rw [List.getElem?_set_ne (fun q=>hvw _ _ _ _ _ _ rfl rfl q.symm)];exact g2,q1,q2⟩
      have oVY:Own encI 3 K.length Y v ps:=by rw [eY];exact st oV
      have oVY2:Own encI 3 K.length Y2 v ps:=by rw [eY2];exact st oVY
      have xY:Ext (Bq k2) Y:=by rw [eY];exact xX.set (by rw [lBq];omega)
      have xY2:Ext (Bq k2) Y2:=by rw [eY2];exact xY.set (by rw [lBq];omega)
      refine ⟨Y,_,Y2,e1,e2,⟨⟨rfl,rfl,rfl⟩,?_,xY2,own_ints oVY2 hpS⟩,xY,own_ints oVY hpS⟩
      simp [lenOpA,Fc.el25,lenA]
    obtain ⟨ocw,lcw,xD,iPD⟩:=eD
    have gG:=fun base=>run_Gapes (base:=base) ((aB k2).ext xY) iPY
    have gcY:=xY.get (gBq k2)
    have lPD:=lenI iPD
    have lPY:=lenI iPY
    rw [hgp] at gG
    unfold lacB at gcY
    by_cases c1:ps=[]
    ·rw [if_pos c1] at gG
     have t1:((ps.length:Int)=0)=True:=eq_true (by rw [c1];rfl)
     have hsp:=@Nat.succ_ne_zero;repeat' (first|simp (disch:=first|exact dqc|fail) only [go_sem,↓reduceIte,hsp,r71,r12,r13,z6,z7,z8,z10,z67,z70,d6,d7,d8,d10,q4,q5,q6,q7,q8,q30,r67,hlt3,eS,gcY,gG,lPD,lPY,eC,lcw,t1,neB,ne_eq,eq_self,not_true,decide_false]|refine WP_drw ?_|refine cnd_intro (fun hsp=>?_) fun hsp=>?_)
     exact ⟨agq,by omega,k2,by omega,xD⟩
    ·rw [if_neg c1] at gG
     have h1:0<ps.length:=List.length_pos_iff.2 c1
     have t1:((ps.length:Int)=0)=False:=eq_false (by omega)
     by_cases c2:(ps.length:Int)-fittN L ps<1
     ·rw [if_pos c2] at gG
      have t2:((ps.length:Int)-(fittN L ps:Int)<1)=True:=eq_true c2
      have hsp:=@Nat.succ_ne_zero;repeat' (first|simp (disch:=first|exact dqc|fail) only [go_sem,↓reduceIte,hsp,r71,r12,r13,z6,z7,z8,z10,z67,z70,d6,d7,d8,d10,q4,q5,q6,q7,q8,q30,r67,hlt3,eS,gcY,gG,lPD,lPY,eC,lcw,t1,t2,neB,ne_eq,eq_self,not_true,decide_false]|refine WP_drw ?_|refine cnd_intro (fun hsp=>?_) fun hsp=>?_)
      exact ⟨agq,by omega,k2,by omega,xD⟩
     ·rw [if_neg c2] at gG
      have t2:((ps.length:Int)-(fittN L ps:Int)<1)=False:=eq_false c2
      have t3:(((fnd L).length:Int) > 0)=False:=eq_false (by rw [hgf (by omega)];simp)
      have hsp:=@Nat.succ_ne_zero;repeat' (first|simp (disch:=first|exact dqc|fail) only [go_sem,↓reduceIte,hsp,r71,r12,r13,z6,z7,z8,z10,z67,z70,d6,d7,d8,d10,q4,q5,q6,q7,q8,q30,r67,hlt3,eS,gcY,gG,lPD,lPY,eC,lcw,t1,t2,t3,neB,ne_eq,eq_self,not_true,decide_false]|refine WP_drw ?_|refine cnd_intro (fun hsp=>?_) fun hsp=>?_)
      exact ⟨agq,by omega,k2,by omega,xD⟩
  ·rintro fr2 K2 hA2 ⟨r67,kq,hkq,xK⟩
   have d6:=hA2 6 rfl
   have d7:=hA2 7 rfl
   have d8:=hA2 8 rfl
   have d10:=hA2 10 rfl
   try simp (disch:=first|exact dqc|fail) only [go_sem,↓reduceIte,q6,q7,q8] at d6 d7 d8 d10
   have hlt2:(((6:Nat):Int)<6)=False:=eq_false (by omega)
   have hlt3:((6:Int)<6)=False:=eq_false (by omega)
   have haw:=fun base=>run_awake (base:=base) (h:=K2)
   have hsp:=@Nat.succ_ne_zero;repeat' (first|simp (disch:=first|exact dqc|fail) only [go_sem,↓reduceIte,hsp,r67,d6,d7,d8,d10,q4,q5,q6,q7,q8,q30,hlt2,hlt3,haw]|refine WP_drw ?_|refine cnd_intro (fun hsp=>?_) fun hsp=>?_)
   exact fB rfl ((hBh kq).trans xK)
end Go.AM
