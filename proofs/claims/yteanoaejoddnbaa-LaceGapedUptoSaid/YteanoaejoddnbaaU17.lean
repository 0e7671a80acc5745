/-
  Contracts: a row of what is really seen (Seen).
-/
import Derived.Test.YteanoaejoddnbaaU16
import Derived.Test.YteanoaejoddnbaaU14
import Derived.Test.YteanoaejoddnbaaU15
import Derived.Test.YteanoaejoddnbaaU11
set_option linter.unusedSimpArgs false
set_option linter.unusedVariables false
namespace Go.AM
open Go.Proofs.Try
attribute [-go_sem] put_ne put_same
attribute [local go_sem ↓] put_if
structure SeenOk (T:Int) (C o:List Int) (r:Rw3):Prop where
 t:0≤r.1∧r.1≤60
 m:0≤r.2.1∧r.2.1≤2 ^ T.toNat-1
 s:0≤r.2.2
 is:(C.getD (o.getD (r.1.toNat % C.length) 0).toNat 0).toNat &&& r.2.1.toNat=r.2.2.toNat
theorem OwnE.spE {α:Type} {E:Enc α} {e:TypeId} {b id k0 k:Nat} {h H:Heap} {v w:AVal} {silk:List Int} {l:List α} (x:OwnE E e b h w l) (hS:SpAt h id v silk k0) (q:SpE h id v silk k H):OwnE E e b H w l:=(x.setBox hS.1).ext q
theorem pow_le8 {T:Int} (h:1≤T∧T≤8):(1:Int)≤2 ^ T.toNat∧(2:Int) ^ T.toNat≤256:=by
 refine ⟨by exact_mod_cast Nat.one_le_two_pow,?_⟩
 have h2:(2:Int) ^ T.toNat≤2 ^ 8:=by exact_mod_cast Nat.pow_le_pow_right (by decide) (show T.toNat≤8 by omega)
 simpa using h2
theorem stL47a {base:Nat} {l:List Oper} {s:St} {Q:AExit→St→Prop}:WP prog raw base (.region 1 l.toArray true) s Q=WPS prog raw base (.region 1 l.toArray true) s Q:=WP_stop
attribute [local go_sem ↓ 3000] stL47a
theorem stL47b {base:Nat} {l:List Oper} {s:St} {Q:AExit→St→Prop}:WP prog raw base (.region 2 l.toArray true) s Q=WPS prog raw base (.region 2 l.toArray true) s Q:=WP_stop
attribute [local go_sem ↓ 3000] stL47b
set_option maxRecDepth 100000 in
set_option maxHeartbeats 4000000 in
theorem run_Seen {id k:Nat} {h:Heap} {v cv rv ov:AVal} {silk C o:List Int} {T:Int} (hS:SpAt h id v silk k) (hk:k≤900000) (hC:OwnE encI 3 0 h cv C) (o2:One rv) (hO:OwnE encI 3 0 h ov o) (hcl:C.length≤1000) (hT:1≤T∧T≤8) (hc:∀ x ∈ C,0≤x∧x≤2 ^ T.toNat-1) (ho:Ord C.length o) (hn:0<C.length) :
  ∃ r:Rw3,(∀ base,callL prog raw base (.fn 47 [] []) [.ptr (some ⟨id,0,0⟩),.agg [.int .i64 T,cv,rv],ov] h=some (.agg [.int .i64 r.1,.int .i64 r.2.1,.int .i64 r.2.2],h.set id (spB v silk (k+4))))∧SeenOk T C o r:=by
 have hid:=lt_of_get hS.1
 have o1:=hC.one
 have o3:=hO.one
 have hol:=ho.1
 obtain ⟨hw1,hw2⟩:=pow_le8 hT
 have sh:=shl_one (w:=T) (by omega) (by omega)
 obtain ⟨W,eW⟩:∃ W:Int,W=2 ^ T.toNat:=⟨_,rfl⟩
 have hcW:∀ x ∈ C,0≤x∧x≤W-1:=fun x hx=>by rw [eW];exact hc x hx
 rw [← eW] at sh hw1 hw2
 have b1:=up_bd (silk:=silk) (k:=k) (n:=60) (by omega)
 have b2:=up_bd (silk:=silk) (k:=k+1) (n:=W-1) (by omega)
 have b3:=up_bd (silk:=silk) (k:=k+1+1) (n:=W-1) (by omega)
 have b4:=up_bd (silk:=silk) (k:=k+1+1+1) (n:=W-1) (by omega)
 have u1:=fun base (G:Heap) (y:SpAt G id v silk k)=>run_upto (base:=base) (n:=60) y (by omega) (by omega)
 have u2:=fun base (G:Heap) (y:SpAt G id v silk (k+1))=>run_upto (base:=base) (n:=W-1) y (by omega) (by omega)
 have u3:=fun base (G:Heap) (y:SpAt G id v silk (k+1+1))=>run_upto (base:=base) (n:=W-1) y (by omega) (by omega)
 have u4:=fun base (G:Heap) (y:SpAt G id v silk (k+1+1+1))=>run_upto (base:=base) (n:=W-1) y (by omega) (by omega)
 obtain ⟨a,ea⟩:=Int.eq_ofNat_of_zero_le b1.1
 obtain ⟨m1,em1⟩:=Int.eq_ofNat_of_zero_le b2.1
 obtain ⟨m2,em2⟩:=Int.eq_ofNat_of_zero_le b3.1
 obtain ⟨m3,em3⟩:=Int.eq_ofNat_of_zero_le b4.1
 simp only [ea] at u1 b1
 simp only [em1] at u2 b2
 simp only [em2] at u3 b3
 simp only [em3] at u4 b4
 clear ea em1 em2 em3
 obtain ⟨m,em⟩:∃ m,m=m1 &&& (m2 ||| m3):=⟨_,rfl⟩
 have hor:m2 ||| m3<256:=Nat.or_lt_two_pow (n:=8) (by omega) (by omega)
 have hm:m≤m1:=by rw [em];exact Nat.and_le_left
 have aor:=orN (t:=3) (a:=m2) (b:=m3) (by omega) (by omega)
 have aan:=andN (t:=3) (a:=m1) (b:=m2 ||| m3) (by omega) (by omega)
 rw [← em] at aan
 obtain ⟨j,ej⟩:∃ j,j=a % C.length:=⟨_,rfl⟩
 have hj:j<C.length:=by rw [ej];exact Nat.mod_lt _ hn
 have hrem:=remN (x:=(a:Int)) (n:=C.length) (by omega) hn
 rw [Int.toNat_natCast,← ej] at hrem
 have hkk:=ho.2.1 _ (getD_mem (l:=o) (i:=j) (by omega))
 obtain ⟨p,ep⟩:=Int.eq_ofNat_of_zero_le hkk.1
 have hcp:=hcW _ (getD_mem (l:=C) (i:=p) (by omega))
 obtain ⟨c,ec⟩:=Int.eq_ofNat_of_zero_le hcp.1
 have ash:=andN (t:=3) (a:=c) (b:=m) (by omega) (by omega)
 obtain ⟨s,es⟩:∃ s,s=c &&& m:=⟨_,rfl⟩
 rw [← es] at ash
 -- the heaps
 obtain ⟨G,eG⟩:∃ G,G=h++[lacB T cv rv]++[rwB (0,0,0)]:=⟨_,rfl⟩
 have xG:Ext h G:=by rw [eG];exact .app (.app .refl)
 have lG:G.length=h.length+2:=by rw [eG];simp
 have gc:G[h.length]?=some (lacB T cv rv):=by rw [eG];exact get_app (get_eq rfl)
 have gr:G[h.length+1]?=some (rwB (0,0,0)):=by rw [eG];exact get_eq (by simp)
 have hS0:=hS.ext xG
 obtain ⟨G1,eG1⟩:∃ G1,G1=G.set id (spB v silk (k+1)):=⟨_,rfl⟩
 have q0:SpE h id v silk (k+1) G1:=by rw [eG1];exact ((SpE.refl hS).ext xG).step hid
 have l1:G1.length=h.length+2:=by rw [eG1,List.length_set,lG]
 have gc1:G1[h.length]?=some (lacB T cv rv):=by rw [eG1,List.getElem?_set_ne (by omega)];exact gc
 have gr1:G1[h.length+1]?=some (rwB (0,0,0)):=by rw [eG1,List.getElem?_set_ne (by omega)];exact gr
 have f1:=fun base=>u1 base G hS0
 rw [← eG1] at f1
 obtain ⟨G2,eG2⟩:∃ G2,G2=G1.set id (spB v silk (k+1+1)):=⟨_,rfl⟩
 have q2:SpE h id v silk (k+1+1) G2:=by rw [eG2];exact q0.step hid
 have l2:G2.length=h.length+2:=by rw [eG2,List.length_set,l1]
 have gc2:G2[h.length]?=some (lacB T cv rv):=by rw [eG2,List.getElem?_set_ne (by omega)];exact gc1
 have gr2:G2[h.length+1]?=some (rwB (0,0,0)):=by rw [eG2,List.getElem?_set_ne (by omega)];exact gr1
 have f2:=fun base=>u2 base G1 (q0.at hS)
 rw [← eG2] at f2
 obtain ⟨G3,eG3⟩:∃ G3,G3=G2++[rwB ((a:Int),(m1:Int),0)]:=⟨_,rfl⟩
 have q3:SpE h id v silk (k+1+1) G3:=by rw [eG3];exact q2.app
 have l3:G3.length=h.length+3:=by rw [eG3];simp [l2]
 have gc3:G3[h.length]?=some (lacB T cv rv):=by rw [eG3];exact get_app gc2
 have gr3:G3[h.length+1]?=some (rwB (0,0,0)):=by rw [eG3];exact get_app gr2
 have gx3:G3[h.length+1+1]?=some (rwB ((a:Int),(m1:Int),0)):=by rw [eG3];exact get_eq (by rw [l2])
 obtain ⟨G4,eG4⟩:∃ G4,G4=G3.set id (spB v silk (k+1+1+1)):=⟨_,rfl⟩
 have q4:SpE h id v silk (k+1+1+1) G4:=by rw [eG4];exact q3.step hid
 have l4:G4.length=h.length+3:=by rw [eG4,List.length_set,l3]
 have gc4:G4[h.length]?=some (lacB T cv rv):=by rw [eG4,List.getElem?_set_ne (by omega)];exact gc3
 have gr4:G4[h.length+1]?=some (rwB (0,0,0)):=by rw [eG4,List.getElem?_set_ne (by omega)];exact gr3
 have gx4:G4[h.length+1+1]?=some (rwB ((a:Int),(m1:Int),0)):=by rw [eG4,List.getElem?_set_ne (by omega)];exact gx3
 have f3:=fun base=>u3 base G3 (q3.at hS)
 rw [← eG4] at f3
 obtain ⟨G5,eG5⟩:∃ G5,G5=G4.set id (spB v silk (k+1+1+1+1)):=⟨_,rfl⟩
 have q5:SpE h id v silk (k+1+1+1+1) G5:=by rw [eG5];exact q4.step hid
 have l5:G5.length=h.length+3:=by rw [eG5,List.length_set,l4]
 have gc5:G5[h.length]?=some (lacB T cv rv):=by rw [eG5,List.getElem?_set_ne (by omega)];exact gc4
 have gr5:G5[h.length+1]?=some (rwB (0,0,0)):=by rw [eG5,List.getElem?_set_ne (by omega)];exact gr4
 have gx5:G5[h.length+1+1]?=some (rwB ((a:Int),(m1:Int),0)):=by rw [eG5,List.getElem?_set_ne (by omega)];exact gx4
 have f4:=fun base=>u4 base G4 (q4.at hS)
 rw [← eG5] at f4
 obtain ⟨G6,eG6⟩:∃ G6,G6=G5.set (h.length+1+1) (rwB ((a:Int),(m:Int),0)):=⟨_,rfl⟩
 have hset:∀ {i:Nat} {b:ABlk} {X:Heap},h.length≤i→SpE h id v silk (k+1+1+1+1) X→SpE h id v silk (k+1+1+1+1) (X.set i b):=fun hi y=>Ext.set y (by rw [List.length_set];exact hi)
 have q6:SpE h id v silk (k+1+1+1+1) G6:=by rw [eG6];exact hset (by omega) q5
 have l6:G6.length=h.length+3:=by rw [eG6,List.length_set,l5]
 have gc6:G6[h.length]?=some (lacB T cv rv):=by rw [eG6,List.getElem?_set_ne (by omega)];exact gc5
 have gr6:G6[h.length+1]?=some (rwB (0,0,0)):=by rw [eG6,List.getElem?_set_ne (by omega)];exact gr5
 have gx6:G6[h.length+1+1]?=some (rwB ((a:Int),(m:Int),0)):=by rw [eG6,List.getElem?_set_self (by omega)]
 obtain ⟨G7,eG7⟩:∃ G7,G7=G6.set (h.length+1+1) (rwB ((a:Int),(m:Int),(s:Int))):=⟨_,rfl⟩
 have q7:SpE h id v silk (k+1+1+1+1) G7:=by rw [eG7];exact hset (by omega) q6
 have gr7:G7[h.length+1]?=some (rwB (0,0,0)):=by rw [eG7,List.getElem?_set_ne (by omega)];exact gr6
 have gx7:G7[h.length+1+1]?=some (rwB ((a:Int),(m:Int),(s:Int))):=by rw [eG7,List.getElem?_set_self (by omega)]
 have iC:Ints G6 cv C:=ownE_ints (hC.spE hS q6) ⟨by omega,fun x hx=>by have:=hcW x hx;omega⟩
 have iO:Ints G6 ov o:=ownE_ints (hO.spE hS q6) (ord_small ho (by omega))
 have hlo:=lenI iO
 rw [hol] at hlo
 have aj:=adrI (i:=(j:Int)) (by omega) iO (by omega)
 rw [Int.toNat_natCast] at aj
 have lj:=loadI iO (i:=j) (by omega)
 rw [ep] at lj hkk
 have ap:=adrI (i:=(p:Int)) (by omega) iC (by omega)
 rw [Int.toNat_natCast] at ap
 have lp:=loadI iC (i:=p) (by omega)
 rw [ec] at lp
 refine ⟨((a:Int),(m:Int),(s:Int)),fun base=>?_,⟨by simp only;omega,by simp only;rw [← eW];omega,by simp only;omega,?_⟩⟩
 ·have eG':=eG
  unfold lacB rwB at eG'
  unfold lacB at gc gc1 gc3 gc4 gc6
  unfold rwB at eG3 gx3 gx4 gx5 gx6 gx7 gr7 eG6 eG7
  rw [show h.length+1+1=G2.length from l2.symm] at gx3 gx4 gx5 gx6 gx7 eG6 eG7
  refine callL_run func47 rfl rfl ?_
  have hsp:=@Nat.succ_ne_zero;repeat' (first|simp (disch:=first|exact dqc|fail) only [go_sem,↓reduceIte,hsp,← eG']|refine WP_drw ?_|refine cnd_intro (fun hsp=>?_) fun hsp=>?_)
  refine WPS_go ?_
  refine WP_wild [⟨4,3,11,⟨h.length,0,0⟩,.int .i64 T,7⟩] (by kernel_rfl) (by kernel_rfl) (by kernel_rfl) ⟨refsLow_int,trivial⟩ fun K hK=>?_
  iterate 11
   rw [TRS_cons]
   refine ⟨by first|(simp (disch:=first|exact dqc|fail) only [go_sem,↓reduceIte,f1,gc,gc1,sh,f2,← eG3,ldsQ_cons,ldsQ_nil,grdQ_cons,grdQ_nil,if_true,Nat.reduceLeDiff];done)|exact trivial,?_⟩
   simp (disch:=first|exact dqc|fail) only [go_sem,↓reduceIte,f1,gc,gc1,sh,f2,← eG3]
  rw [TRS_nil]
  refine ⟨by first|(simp (disch:=first|exact dqc|fail) only [go_sem,↓reduceIte,f1,gc,gc1,sh,f2,← eG3,ldsQ_cons,ldsQ_nil,grdQ_cons,grdQ_nil,if_true,Nat.reduceLeDiff];done)|exact trivial,?_⟩
  subst hK
  have hsp:=@Nat.succ_ne_zero;repeat' (first|simp (disch:=first|exact dqc|fail) only [go_sem,↓reduceIte,hsp,← eG3]|refine WP_drw ?_|refine cnd_intro (fun hsp=>?_) fun hsp=>?_)
  refine WPS_go ?_
  refine WP_wild [⟨1,3,17,⟨G2.length,0,1⟩,.int .i64 (m1:Int),17⟩,⟨10,3,26,⟨h.length,0,0⟩,.int .i64 T,13⟩] (by kernel_rfl) (by kernel_rfl) (by kernel_rfl) ⟨refsLow_int,refsLow_int,trivial⟩ fun K hK=>?_
  iterate 18
   rw [TRS_cons]
   refine ⟨by first|(simp (disch:=first|exact dqc|fail) only [go_sem,↓reduceIte,gx3,gc3,sh,f3,gc4,gx4,f4,aor,aan,gx5,← eG6,ldsQ_cons,ldsQ_nil,grdQ_cons,grdQ_nil,if_true,Nat.reduceLeDiff];done)|exact trivial,?_⟩
   simp (disch:=first|exact dqc|fail) only [go_sem,↓reduceIte,gx3,gc3,sh,f3,gc4,gx4,f4,aor,aan,gx5,← eG6]
  rw [TRS_nil]
  refine ⟨by first|(simp (disch:=first|exact dqc|fail) only [go_sem,↓reduceIte,gx3,gc3,sh,f3,gc4,gx4,f4,aor,aan,gx5,← eG6,ldsQ_cons,ldsQ_nil,grdQ_cons,grdQ_nil,if_true,Nat.reduceLeDiff];done)|exact trivial,?_⟩
  subst hK
  have hsp:=@Nat.succ_ne_zero;repeat' (first|simp (disch:=first|exact dqc|fail) only [go_sem,↓reduceIte,hsp,← eG6,gc6,gx6,hlo,hrem,aj,lj,ap,lp,ash,← eG7,gx7,gr7]|refine WP_drw ?_|refine cnd_intro (fun hsp=>?_) fun hsp=>?_)
  obtain ⟨G8,eG8⟩:∃ G8,G8=G7.set (h.length+1) (rwB ((a:Int),(m:Int),(s:Int))):=⟨_,rfl⟩
  have q8:SpE h id v silk (k+1+1+1+1) G8:=by rw [eG8];exact hset (by omega) q7
  have g8:G8[h.length+1]?=some (rwB ((a:Int),(m:Int),(s:Int))):=by rw [eG8,List.getElem?_set_self (lt_of_get gr7)]
  unfold rwB at eG8 g8
  have hsp:=@Nat.succ_ne_zero;repeat' (first|simp (disch:=first|exact dqc|fail) only [go_sem,↓reduceIte,hsp,← eG8,g8]|refine WP_drw ?_|refine cnd_intro (fun hsp=>?_) fun hsp=>?_)
  exact set_fin rfl q8
 ·rw [Int.toNat_natCast,← ej,ep,Int.toNat_natCast,ec,Int.toNat_natCast,Int.toNat_natCast,Int.toNat_natCast,es]
end Go.AM
namespace Go.AM
theorem pair_sortB {m:List Int} (h:m.Pairwise (·≤·)):sortB m=true:=by
 unfold sortB
 refine decide_eq_true fun i hi h0=>?_
 have:=pair_at h (i:=i-1) (j:=i) (by omega) hi
 rw [getD_at hi,getD_at (show i-1<m.length by omega)]
 exact this
end Go.AM
namespace Go.AM
open Go.Proofs.Try
attribute [-go_sem] put_ne put_same
attribute [local go_sem ↓] put_if
def cntK (os:List (List Int)) (p n i:Nat):List Int:=lst (fun k=>(((os.take i).countP fun o=>decide (o.getD p 0=(k:Int)):Nat):Int)) n
theorem cntK_len {os:List (List Int)} {p n i:Nat}:(cntK os p n i).length=n:=lst_len
theorem cntK_step {os:List (List Int)} {p n i c:Nat} {o:List Int} (ho:os[i]?=some o) (hc:o.getD p 0=(c:Int)) (hn:c<n):(cntK os p n i).set c ((cntK os p n i).getD c 0+1)=cntK os p n (i+1):=by
 unfold cntK
 rw [lst_get hn,lst_set hn]
 refine lst_congr fun k hk=>?_
 rw [List.take_add_one,ho,List.countP_append]
 by_cases e:k=c
 ·subst e
  rw [if_pos rfl,show List.countP (fun o=>decide (o.getD p 0=(k:Int))) (some o).toList=1 from List.countP_cons_of_pos (decide_eq_true hc)]
  omega
 ·rw [if_neg e,show List.countP (fun o=>decide (o.getD p 0=(k:Int))) (some o).toList=0 from List.countP_cons_of_neg (by rw [decide_eq_true_eq,hc];omega)]
  omega
theorem cntK_bd {os:List (List Int)} {p n i k:Nat} (hk:k<n):0≤(cntK os p n i).getD k 0∧(cntK os p n i).getD k 0≤(os.length:Int):=by
 unfold cntK
 rw [lst_get hk]
 have h1:(os.take i).countP (fun o=>decide (o.getD p 0=(k:Int)))≤(os.take i).length:=List.countP_le_length
 have h2:(os.take i).length≤os.length:=List.length_take_le' ..
 omega
theorem cntK_zero {os:List (List Int)} {p n:Nat}:cntK os p n 0=List.replicate n 0:=by
 refine lst_ext (by rw [cntK_len,List.length_replicate]) fun i hi=>?_
 rw [cntK_len] at hi
 unfold cntK
 rw [lst_get hi,List.take_zero,List.getD_eq_getElem?_getD,List.getElem?_replicate,if_pos hi]
 rfl
theorem cntK_all {os:List (List Int)} {p n:Nat}:grt (cntK os p n os.length)=lvsN n os p:=by
 unfold cntK lvsN
 rw [List.take_length]
set_option maxHeartbeats 1000000 in
theorem run_lvs {base a b id p bb:Nat} {h:Heap} {x:AVal} {L:Lac} {os:List (List Int)} (ga:h[a]?=some (pB id)) (gb:h[b]?=some (lsB x)) (hD:DskAt h id L) (hn:1≤L.C.length∧L.C.length≤7) (hA:AllI bb h x os) (hl:os.length≤823543) (ho:∀ o ∈ os,Ord L.C.length o) (hp:p<L.C.length) :
  callL prog raw base (.fn 129 [] [.ptr (some ⟨a,0,0⟩),.ptr (some ⟨b,0,0⟩)]) [.int .i64 (p:Int)] h=some (.int .i64 (lvsN L.C.length os p),h):=by
 obtain ⟨cv,rv,hg,hC,-⟩:=hD
 have la:=lt_of_get ga
 have lb:=lt_of_get gb
 have lid:=lt_of_get hg
 have ox:=hA.one
 have lc:=ld_cards hg
 have hlc:=lenI hC
 obtain ⟨G,eG⟩:∃ G,G=h++[srB (cntK os p L.C.length 0) 3 0]:=⟨_,rfl⟩
 have mk:makeSliceA prog h 25 (.int .i64 (L.C.length:Int)) (.int .i64 (L.C.length:Int))=some (.slice (some ⟨h.length,0,0⟩) L.C.length L.C.length,G):=by
  rw [make_full Fc.el25 (by omega) (by omega),rep_zero,eG,cntK_zero]
 have xG:Ext h G:=by rw [eG];exact .app .refl
 have gbG:=xG.get gb
 have hlx:=(hA.ext xG).len (by omega)
 unfold pB at ga
 unfold lsB at gb gbG
 refine callL_run func129 rfl rfl ?_
 have hsp:=@Nat.succ_ne_zero;repeat' (first|simp (disch:=first|exact dqb|fail) only [go_sem,↓reduceIte,hsp,ga,lc,hlc,mk,gbG,hlx]|refine WP_drw ?_|refine cnd_intro (fun hsp=>?_) fun hsp=>?_)
 refine WP_count [(7,7),(17,30)] 0 os.length (Nat.zero_le _) (fun _ i fr H=>fr 17=.int .i64 (i:Int)∧H=h++[srB (cntK os p L.C.length i) 3 0]) ?_ ?_ ?_
 ·exact ⟨by (simp (disch:=first|exact dqb|fail) only [go_sem,↓reduceIte,Int.natCast_zero];first|done|rfl),eG⟩
 ·rintro i fr H hi0 hi hA2 ⟨r17,eH⟩
  have q0:=hA2 0 rfl
  have q4:=hA2 4 rfl
  have q5:=hA2 5 rfl
  have q15:=hA2 15 rfl
  have q16:=hA2 16 rfl
  try simp (disch:=first|exact dqb|fail) only [go_sem,↓reduceIte] at q0 q4 q5 q15 q16
  have hlt:((i:Int)<(os.length:Int))=True:=eq_true (by omega)
  obtain ⟨o,eo⟩:∃ o,o=os[i]:=⟨_,rfl⟩
  have hoi:os[i]?=some o:=by rw [eo];exact List.getElem?_eq_getElem hi
  have hoo:=ho o (List.mem_of_getElem? hoi)
  have xH:Ext h H:=by rw [eH];exact .app .refl
  have gH:H[h.length]?=some (srB (cntK os p L.C.length i) 3 0):=by rw [eH];exact get_eq rfl
  obtain ⟨ea,w,ad,ld,ow⟩:=hA.at (by omega) hoi
  have ld0:=ld H xH
  have oww:=ow.one
  have iw:=ownE_ints (ow.ext xH) (ord_small hoo (by omega))
  have hpo:p<o.length:=by rw [hoo.1];exact hp
  have ap:=adrI (i:=(p:Int)) (by omega) iw (by omega)
  rw [Int.toNat_natCast] at ap
  have lp:=loadI iw hpo
  have hr:=hoo.2.1 _ (getD_mem hpo)
  obtain ⟨c,ec⟩:=Int.eq_ofNat_of_zero_le hr.1
  rw [ec] at lp
  have hcn:c<L.C.length:=by omega
  have hcl:=cntK_len (os:=os) (p:=p) (n:=L.C.length) (i:=i)
  have hbd:=cntK_bd (os:=os) (p:=p) (i:=i) hcn
  have ac:indexAddrA prog 25 (.slice (some ⟨h.length,0,0⟩) L.C.length L.C.length) (.int .i64 (c:Int))=some (.ptr (some ⟨h.length,0,c⟩)):=by
   rw [adr_sl Fc.el25 Fc.ar25 (by omega) (by omega),Int.toNat_natCast,Nat.mul_one,Nat.zero_add]
  obtain ⟨m,em⟩:∃ m,m=(cntK os p L.C.length i).getD c 0:=⟨_,rfl⟩
  have d1:loadP prog H 3 (.ptr (some ⟨h.length,0,c⟩))=some (.int .i64 m):=by
   rw [load_eq,Fc.ty3,gH,em];exact ldB_ints (by omega)
  have hst:∀ {F:ABlk→Heap},stQ base h.length (some (srB (cntK os p L.C.length i) 3 0)) 0 c [.int .i64 (m+1)] F=some (F (srB (cntK os p L.C.length (i+1)) 3 0)):=fun {F}=>by
   rw [stQ_ints (by omega),em,cntK_step hoi ec hcn]
  have hst2:∀ {F:ABlk→Heap},stQ h.length h.length (some (srB (cntK os p L.C.length i) 3 0)) 0 c [.int .i64 (m+1)] F=some (F (srB (cntK os p L.C.length (i+1)) 3 0)):=fun {F}=>by
   rw [stQ_ints (by omega),em,cntK_step hoi ec hcn]
  have hset:H.set h.length (srB (cntK os p L.C.length (i+1)) 3 0)=h++[srB (cntK os p L.C.length (i+1)) 3 0]:=by
   rw [eH,List.set_append_right _ _ (Nat.le_refl _),Nat.sub_self];rfl
  have hmb:0≤m∧m≤823543:=by omega
  have hsp:=@Nat.succ_ne_zero;repeat' (first|simp (disch:=first|exact dqb|fail) only [go_sem,↓reduceIte,hsp,r17,q0,q4,q5,q15,q16,hlt,ad,ld0,ap,lp,ac,d1,gH,hst2]|refine WP_drw ?_|refine cnd_intro (fun hsp=>?_) fun hsp=>?_)
  exact ⟨agq,by omega,hset⟩
 ·rintro fr H hA2 ⟨r17,eH⟩
  have q0:=hA2 0 rfl
  have q4:=hA2 4 rfl
  have q5:=hA2 5 rfl
  have q15:=hA2 15 rfl
  have q16:=hA2 16 rfl
  try simp (disch:=first|exact dqb|fail) only [go_sem,↓reduceIte] at q0 q4 q5 q15 q16
  have hlt:((os.length:Int)<(os.length:Int))=False:=eq_false (by omega)
  have gH:H[h.length]?=some (srB (cntK os p L.C.length os.length) 3 0):=by rw [eH];exact get_eq rfl
  have hs:Small (cntK os p L.C.length os.length):=⟨by rw [cntK_len];omega,fun y hy=>by
   obtain ⟨k,hk,e⟩:=List.mem_iff_getElem.1 hy
   rw [cntK_len] at hk
   have:=cntK_bd (os:=os) (p:=p) (i:=os.length) hk
   rw [getD_at (by rw [cntK_len];exact hk),e] at this
   omega⟩
  have hI:Ints H (.slice (some ⟨h.length,0,0⟩) L.C.length L.C.length) (cntK os p L.C.length os.length):=by
   rw [eH];exact slice_row rfl (by rw [cntK_len]) hs
  have hgr:=fun base=>run_greatest (base:=base) hI
  rw [cntK_all] at hgr
  have hsp:=@Nat.succ_ne_zero;repeat' (first|simp (disch:=first|exact dqb|fail) only [go_sem,↓reduceIte,hsp,r17,q0,q4,q5,q15,q16,hlt,hgr]|refine WP_drw ?_|refine cnd_intro (fun hsp=>?_) fun hsp=>?_)
  exact fI rfl (by rw [eH];exact .app .refl)
def askE (L:Lac):Int × Int × Int:=if (fndE L).2=0 then ((askN L.C.length (fnd L) L.C.length).1,(askN L.C.length (fnd L) L.C.length).2,0) else (0,0,(fndE L).2)
end Go.AM
namespace Go.AM
open Go.Proofs.Try
attribute [-go_sem] put_ne put_same
attribute [local go_sem ↓] put_if
theorem grt_le {l:List Int} {B:Int} (hB:0≤B) (h:∀ x ∈ l,x≤B):0≤grt l∧grt l≤B:=by
 refine ⟨grt_ge.1,?_⟩
 unfold grt
 rcases grt_is (l:=l) (a:=0) with q|q
 ·omega
 ·exact h _ q
theorem lvsN_bd {n:Nat} {os:List (List Int)} {p:Nat} (hl:os.length≤823543):0≤lvsN n os p∧lvsN n os p≤1000000:=by
 unfold lvsN
 refine grt_le (by omega) fun x hx=>?_
 obtain ⟨k,hk,e⟩:=List.mem_iff_getElem.1 hx
 rw [lst_len] at hk
 have:(lst (fun k=>((os.countP fun o=>decide (o.getD p 0=(k:Int)):Nat):Int)) n).getD k 0=x:=by rw [getD_at (by rw [lst_len];exact hk),e]
 rw [lst_get hk] at this
 have h2:os.countP (fun o=>decide (o.getD p 0=(k:Int)))≤os.length:=List.countP_le_length
 omega
abbrev lkB (g:AVal):ABlk:=⟨.cells [g] 155 false false,0⟩
set_option maxRecDepth 100000 in
set_option maxHeartbeats 2000000 in
theorem run_Ask {base:Nat} {h:Heap} {v:AVal} {L:Lac} (hL:LacAt h v L) :
  callL prog raw base (.fn 61 [] []) [v] h=some (.tuple [.int .i64 (askE L).1,.int .i64 (askE L).2.1,.int .i64 (askE L).2.2],h):=by
 have hL0:=hL
 obtain ⟨cv,rv,rfl,hC,hR⟩:=hL
 have o1:=hC.one
 have o2:=hR.one
 obtain ⟨G0,eG0⟩:∃ G0,G0=h++[lacB L.T cv rv]:=⟨_,rfl⟩
 have x0:Ext h G0:=by rw [eG0];exact .app .refl
 have g0:G0[h.length]?=some (lacB L.T cv rv):=by rw [eG0];exact get_eq rfl
 have l0:G0.length=h.length+1:=by rw [eG0];simp
 obtain ⟨w1,H1,e1,x1,a,x,rfl,oa,hA,hD⟩:=run_found (base:=h.length) (h:=G0) (by omega) (hL0.ext x0)
 have ox:=hA.one
 have l1:=x1.len
 obtain ⟨H2,eH2⟩:∃ H2,H2=H1++[(⟨.cells [a] 132 false false,0⟩:ABlk)]:=⟨_,rfl⟩
 obtain ⟨H3,eH3⟩:∃ H3,H3=H2++[lsB x]:=⟨_,rfl⟩
 have x2:Ext H1 H2:=by rw [eH2];exact .app .refl
 have x3:Ext H2 H3:=by rw [eH3];exact .app .refl
 have l2:H2.length=H1.length+1:=by rw [eH2];simp
 have l3:H3.length=H1.length+2:=by rw [eH3];simp [l2]
 have ga:H3[H1.length]?=some ⟨.cells [a] 132 false false,0⟩:=x3.get (by rw [eH2];exact get_eq rfl)
 have gb:H3[H1.length+1]?=some (lsB x):=by rw [eH3];exact get_eq l2.symm
 have xh3:=((x0.trans x1).trans x2).trans x3
 unfold lacB at eG0 g0
 have eH3':=eH3
 unfold lsB at eH3'
 refine callL_run func61 rfl rfl ?_
 by_cases c:(fndE L).2=0
 ·obtain ⟨c1,c2,c3⟩:=fndE_ok c
  have kn:=(chkL_iff.1 c1).n
  have r:askE L=((askN L.C.length (fnd L) L.C.length).1,(askN L.C.length (fnd L) L.C.length).2,0):=by unfold askE;rw [if_pos c]
  obtain ⟨id,rfl,hDk⟩:=hD c
  rw [r]
  rw [c3] at hA e1
  have hAI:AllI G0.length H1 x (fnd L):=hA.all
  have hfew:=fnd_few (L:=L) kn.2
  obtain ⟨H4,eH4⟩:∃ H4,H4=H3++[lkB (.fn 129 [] [.ptr (some ⟨H1.length,0,0⟩),.ptr (some ⟨H1.length+1,0,0⟩)])]:=⟨_,rfl⟩
  have x4:Ext H3 H4:=by rw [eH4];exact .app .refl
  have l4:H4.length=H1.length+3:=by rw [eH4];simp [l3]
  have g4:H4[H3.length]?=some (lkB (.fn 129 [] [.ptr (some ⟨H1.length,0,0⟩),.ptr (some ⟨H1.length+1,0,0⟩)])):=by rw [eH4];exact get_eq rfl
  have ga4:=x4.get ga
  have gb4:=x4.get gb
  have x14:=(x2.trans x3).trans x4
  have hD4:=hDk.ext x14
  have hlv:=fun base p (hp:p<L.C.length)=>run_lvs (base:=base) (p:=p) ga4 gb4 hD4 kn (hAI.ext x14) hfew (fun o ho=>fnd_ord ho) hp
  obtain ⟨cv',rv',hg,hC',-⟩:=hD4
  have lc:=ld_cards hg
  have hlc:=lenI hC'
  have hlb:=fun p=>lvsN_bd (n:=L.C.length) (p:=p) hfew
  unfold lkB at eH4 g4
  have hsp:=@Nat.succ_ne_zero;repeat' (first|simp (disch:=first|exact dqb|fail) only [go_sem,↓reduceIte,hsp,← eG0,g0,e1,eq_self,← eH2,← eH3',ga,gb,← eH4,ga4,lc,hlc]|refine WP_drw ?_|refine cnd_intro (fun hsp=>?_) fun hsp=>?_)
  obtain ⟨A,eA⟩:∃ A,A=askN L.C.length (fnd L):=⟨_,rfl⟩
  rw [← eA]
  refine WP_count [(2,3),(8,9),(27,43)] 0 L.C.length (Nat.zero_le _) (fun _ i fr H=>fr 27=.int .i64 (i:Int)∧H=H4∧fr 2=.int .i64 (A i).1∧fr 3=.int .i64 (A i).2) ?_ ?_ ?_
  ·exact ⟨by (simp (disch:=first|exact dqb|fail) only [go_sem,↓reduceIte,Int.natCast_zero];first|done|rfl),rfl,by rw [eA];simp (disch:=first|exact dqb|fail) only [go_sem,↓reduceIte];rfl,by rw [eA];simp (disch:=first|exact dqb|fail) only [go_sem,↓reduceIte];rfl⟩
  ·rintro i fr H hi0 hi hA2 ⟨r27,rfl,r2,r3⟩
   have q4:=hA2 4 rfl
   have q7:=hA2 7 rfl
   have q26:=hA2 26 rfl
   try simp (disch:=first|exact dqb|fail) only [go_sem,↓reduceIte] at q4 q7 q26
   have hlt:((i:Int)<(L.C.length:Int))=True:=eq_true (by omega)
   have hlv0:=fun base=>hlv base i hi
   obtain ⟨m,em⟩:∃ m,m=lvsN L.C.length (fnd L) i:=⟨_,rfl⟩
   rw [← em] at hlv0
   have hs:A (i+1)=if i=0 ∨ m<(A i).2 then ((i:Int),m) else A i:=by rw [eA,askN,em]
   by_cases q1:i=0
   ·have t1:((i:Int)=0)=True:=eq_true (by omega)
    rw [if_pos (.inl q1)] at hs
    have hsp:=@Nat.succ_ne_zero;repeat' (first|simp (disch:=first|exact dqb|fail) only [go_sem,↓reduceIte,hsp,r27,r2,r3,q4,q7,q26,hlt,g4,hlv0,t1]|refine WP_drw ?_|refine cnd_intro (fun hsp=>?_) fun hsp=>?_)
    exact ⟨agq,by omega,by rw [hs],by rw [hs]⟩
   ·have t1:((i:Int)=0)=False:=eq_false (by omega)
    by_cases q2:m<(A i).2
    ·have t2:(m<(A i).2)=True:=eq_true q2
     rw [if_pos (.inr q2)] at hs
     have hsp:=@Nat.succ_ne_zero;repeat' (first|simp (disch:=first|exact dqb|fail) only [go_sem,↓reduceIte,hsp,r27,r2,r3,q4,q7,q26,hlt,g4,hlv0,t1,t2]|refine WP_drw ?_|refine cnd_intro (fun hsp=>?_) fun hsp=>?_)
     exact ⟨agq,by omega,by rw [hs],by rw [hs]⟩
    ·have t2:(m<(A i).2)=False:=eq_false q2
     rw [if_neg (fun z=>z.elim q1 q2)] at hs
     have hsp:=@Nat.succ_ne_zero;repeat' (first|simp (disch:=first|exact dqb|fail) only [go_sem,↓reduceIte,hsp,r27,r2,r3,q4,q7,q26,hlt,g4,hlv0,t1,t2]|refine WP_drw ?_|refine cnd_intro (fun hsp=>?_) fun hsp=>?_)
     exact ⟨agq,by omega,by rw [hs],by rw [hs]⟩
  ·rintro fr H hA2 ⟨r27,rfl,r2,r3⟩
   have q4:=hA2 4 rfl
   have q7:=hA2 7 rfl
   have q26:=hA2 26 rfl
   try simp (disch:=first|exact dqb|fail) only [go_sem,↓reduceIte] at q4 q7 q26
   have hlt:((L.C.length:Int)<(L.C.length:Int))=False:=eq_false (by omega)
   have hsp:=@Nat.succ_ne_zero;repeat' (first|simp (disch:=first|exact dqb|fail) only [go_sem,↓reduceIte,hsp,r27,r2,r3,q4,q7,q26,hlt]|refine WP_drw ?_|refine cnd_intro (fun hsp=>?_) fun hsp=>?_)
   exact fIII rfl rfl rfl (xh3.trans x4)
 ·have t0:((fndE L).2=0)=False:=eq_false c
  have r:askE L=(0,0,(fndE L).2):=by unfold askE;rw [if_neg c]
  rw [r]
  have hsp:=@Nat.succ_ne_zero;repeat' (first|simp (disch:=first|exact dqb|fail) only [go_sem,↓reduceIte,hsp,← eG0,g0,e1,t0,← eH2,← eH3']|refine WP_drw ?_|refine cnd_intro (fun hsp=>?_) fun hsp=>?_)
  exact fIII rfl rfl rfl xh3
end Go.AM
namespace Go.AM
open Go.Proofs.Try
attribute [-go_sem] put_ne put_same
attribute [local go_sem ↓] put_if
def rws4:List Rw3:=[(0,1,1),(5,6,0),(2,4,4),(3,4,4)]
def lac4 (r:Nat):Lac:=⟨3,[1,2,3,4],rws4.take r⟩
theorem bs4 {lit:Bool} {H:Heap} {a b c d:Int}:lit=false→bsA prog lit H 25 4 [(0,.int .i64 a),(1,.int .i64 b),(2,.int .i64 c),(3,.int .i64 d)]=some (.slice (some ⟨H.length,0,0⟩) 4 4,H++[rowB [a,b,c,d] 0]):=by
 intro hl;subst hl;simp [bsA,rowOf,Fc.el25,fillA,repCells,AVal.isN,AVal.cells,splice,rowB,ints]
theorem bs3 {lit:Bool} {H:Heap} {a b c:Int}:lit=false→bsA prog lit H 25 3 [(0,.int .i64 a),(1,.int .i64 b),(2,.int .i64 c)]=some (.slice (some ⟨H.length,0,0⟩) 3 3,H++[rowB [a,b,c] 0]):=by
 intro hl;subst hl;simp [bsA,rowOf,Fc.el25,fillA,repCells,AVal.isN,AVal.cells,splice,rowB,ints]
theorem bs5 {lit:Bool} {H:Heap} {a b c d e:Int}:lit=false→bsA prog lit H 25 5 [(0,.int .i64 a),(1,.int .i64 b),(2,.int .i64 c),(3,.int .i64 d),(4,.int .i64 e)]=some (.slice (some ⟨H.length,0,0⟩) 5 5,H++[rowB [a,b,c,d,e] 0]):=by
 intro hl;subst hl;simp [bsA,rowOf,Fc.el25,fillA,repCells,AVal.isN,AVal.cells,splice,rowB,ints]
theorem bsR4 {lit:Bool} {H:Heap}:bsA prog lit H 42 4 [(0,.agg [.int .i64 0,.int .i64 1,.int .i64 1]),(1,.agg [.int .i64 5,.int .i64 6,.int .i64 0]),(2,.agg [.int .i64 2,.int .i64 4,.int .i64 4]),(3,.agg [.int .i64 3,.int .i64 4,.int .i64 4])]=some (.slice (some ⟨H.length,0,0⟩) 4 4,H++[rowE encR 70 rws4 0]):=by
 simp [bsA,rowOf,Fc.el42,fillA,repCells,AVal.isN,AVal.cells,splice,rowE,flat,encR,rws4]
theorem bsM2 {lit:Bool} {H:Heap}:bsA prog lit H 33 2 [(0,.agg [.int .i64 1,.int .i64 0]),(1,.agg [.int .i64 3,.int .i64 1])]=some (.slice (some ⟨H.length,0,0⟩) 2 2,H++[rowE encM 36 [(1,0),(3,1)] 0]):=by
 simp [bsA,rowOf,Fc.el33,fillA,repCells,AVal.isN,AVal.cells,splice,rowE,flat,encM]
theorem run_Four {base r:Nat} {h:Heap} (hb:base≤h.length) (hr:r≤4):Ret prog raw base (.fn 95 [] []) [.int .i64 (r:Int)] h (fun w H=>Ext h H∧LacAt H w (lac4 r)):=by
 obtain ⟨H1,e1⟩:∃ H1,H1=h++[lacB 0 (.slice none 0 0) (.slice none 0 0)]:=⟨_,rfl⟩
 obtain ⟨H2,e2⟩:∃ H2,H2=H1++[rowE encR 70 rws4 0]:=⟨_,rfl⟩
 obtain ⟨H3,e3⟩:∃ H3,H3=H2++[rowB [1,2,3,4] 0]:=⟨_,rfl⟩
 have l1:H1.length=h.length+1:=by rw [e1];simp
 have l2:H2.length=h.length+2:=by rw [e2];simp [l1]
 have l3:H3.length=h.length+3:=by rw [e3];simp [l2]
 have x1:Ext h H1:=by rw [e1];exact .app .refl
 have x2:Ext H1 H2:=by rw [e2];exact .app .refl
 have x3:Ext H2 H3:=by rw [e3];exact .app .refl
 have g1:H3[h.length]?=some (lacB 0 (.slice none 0 0) (.slice none 0 0)):=x3.get (x2.get (by rw [e1];exact get_eq rfl))
 have g2:H3[H1.length]?=some (rowE encR 70 rws4 0):=x3.get (by rw [e2];exact get_eq rfl)
 have g3:H3[H2.length]?=some (rowB [1,2,3,4] 0):=by rw [e3];exact get_eq rfl
 have ln:∀ {H:Heap},lenOpA prog H 42 (.slice (some ⟨H1.length,0,0⟩) 4 4)=some (.int .i64 4):=fun {H}=>by simp [lenOpA,Fc.el42,lenA]
 have mn:min (r:Int) 4=(r:Int):=by omega
 have mx:max 0 (r:Int)=(r:Int):=by omega
 have sl:sliceA prog 42 (.slice (some ⟨H1.length,0,0⟩) 4 4) none (some (.int .i64 (r:Int))) none=some (.slice (some ⟨H1.length,0,0⟩) r 4):=by
  simp only [sliceA,Fc.ar42,Fc.el42,optB,boundI (show (0:Int)≤(r:Int) by omega) (show (r:Int)≤((4:Nat):Int) by omega)]
  simp [ARef.add]
 have hfin:Ext h (H3.set h.length (lacB 3 (.slice (some ⟨H2.length,0,0⟩) 4 4) (.slice (some ⟨H1.length,0,0⟩) r 4)))∧LacAt (H3.set h.length (lacB 3 (.slice (some ⟨H2.length,0,0⟩) 4 4) (.slice (some ⟨H1.length,0,0⟩) r 4))) (.agg [.int .i64 3,.slice (some ⟨H2.length,0,0⟩) 4 4,.slice (some ⟨H1.length,0,0⟩) r 4]) (lac4 r):=by
  refine ⟨((x1.trans x2).trans x3).set (Nat.le_refl _),_,_,rfl,?_,?_⟩
  ·refine ⟨⟨by show ([1,2,3,4]:List Int).length<2 ^ 60;decide,by show ∀ x ∈ ([1,2,3,4]:List Int),_;decide⟩,.inr (.inr ⟨⟨H2.length,0,0⟩,4,ints [1,2,3,4],3,true,false,rfl,?_,rfl,by show 0+([1,2,3,4]:List Int).length≤4;decide,by show ([1,2,3,4]:List Int).length≤4;decide⟩)⟩
   rw [List.getElem?_set_ne (by show h.length ≠ H2.length;omega)];exact g3
  ·have hlen:(rws4.take r).length=r:=by rw [List.length_take];exact Nat.min_eq_left hr
   refine ⟨by show (rws4.take r).length<_;omega,.inr (.inr ⟨⟨H1.length,0,0⟩,4,flat encR rws4,70,true,false,by show _=AVal.slice _ (rws4.take r).length _;rw [hlen],?_,?_,?_,by show (rws4.take r).length≤4;omega⟩)⟩
   ·rw [List.getElem?_set_ne (by show h.length ≠ H1.length;omega)];exact g2
   ·show ((flat encR rws4).drop 0).take ((rws4.take r).length * 3)=flat encR (rws4.take r)
    rw [hlen]
    have:r=0 ∨ r=1 ∨ r=2 ∨ r=3 ∨ r=4:=by omega
    rcases this with rfl|rfl|rfl|rfl|rfl<;>rfl
   ·show 0+(rws4.take r).length * 3≤12
    omega
 unfold lacB at e1 g1 hfin
 refine ret_raw func95 rfl (by kernel_rfl) ?_
 have hsp:=@Nat.succ_ne_zero;repeat' (first|simp (disch:=first|exact dqb|fail) only [go_sem,↓reduceIte,hsp,← e1,bsR4,← e2,bs4,← e3,ln,mn,mx,sl,g1]|refine WP_drw ?_|refine cnd_intro (fun hsp=>?_) fun hsp=>?_)
 exact hfin
theorem kw4:kwnE (lac4 2)=([2,0,-1,-1],0):=by kernel_rfl
theorem cn4:cntE (lac4 2)=(2,0):=by kernel_rfl
theorem as4:askE (lac4 2)=(2,1,0):=by kernel_rfl
theorem gp4:gpsE (lac4 4) [2,3]=(1,0):=by kernel_rfl
theorem ri5:risE [2,0,3,1,4]=([0,2,4],0):=by kernel_rfl
theorem mk5:makE [2,0,3,1,4] [(1,0),(3,1)]=([0,1,2,3,4],0):=by kernel_rfl
end Go.AM
namespace Go.AM
open Go.Proofs.Try
attribute [-go_sem] put_ne put_same
attribute [local go_sem ↓] put_if
theorem small5:Small [2,0,3,1,4]:=⟨by decide,by decide⟩
set_option maxRecDepth 100000 in
set_option maxHeartbeats 4000000 in
theorem run_awake {base:Nat} {h:Heap}:callL prog raw base (.fn 28 [] []) [] h=some (.bool true,h):=by
 obtain ⟨b,eb⟩:∃ b,b=h.length:=⟨_,rfl⟩
 obtain ⟨v1,H1,e1,x1,c1⟩:=run_Four (base:=h.length) (r:=2) (h:=h) (Nat.le_refl _) (by omega)
 have n1:=x1.len
 obtain ⟨_,H2,e2,x2,k1,rfl,o2⟩:=run_Known (base:=h.length) (h:=H1) (by omega) c1
 rw [kw4] at e2 o2
 have n2:=x2.len
 obtain ⟨v3,H3,e3,x3,c3⟩:=run_Four (base:=h.length) (r:=2) (h:=H2) (by omega) (by omega)
 have n3:=x3.len
 have e4:=run_Count (base:=h.length) c3
 rw [cn4] at e4
 obtain ⟨v5,H5,e5,x5,c5⟩:=run_Four (base:=h.length) (r:=2) (h:=H3) (by omega) (by omega)
 have n5:=x5.len
 have e6:=run_Ask (base:=h.length) c5
 rw [as4] at e6
 obtain ⟨v7,H7,e7,x7,c7⟩:=run_Four (base:=h.length) (r:=4) (h:=H5) (by omega) (by omega)
 have n7:=x7.len
 obtain ⟨H8,eH8⟩:∃ H8,H8=H7++[rowB [2,3] 0]:=⟨_,rfl⟩
 have x8:Ext H7 H8:=by rw [eH8];exact .app .refl
 have n8:=x8.len
 have e8:=run_Gapes (base:=h.length) (gap:=[2,3]) (gv:=.slice (some ⟨H7.length,0,0⟩) 2 2) (c7.ext x8) (by rw [eH8];exact slice_row rfl rfl ⟨by decide,by decide⟩)
 rw [gp4] at e8
 obtain ⟨H9,eH9⟩:∃ H9,H9=H8++[rowB [2,0,3,1,4] 0]:=⟨_,rfl⟩
 have x9:Ext H8 H9:=by rw [eH9];exact .app .refl
 have n9:=x9.len
 obtain ⟨_,H10,e10,x10,k2,rfl,o10⟩:=run_Rise (base:=h.length) (h:=H9) (v:=.slice (some ⟨H8.length,0,0⟩) 5 5) (o:=[2,0,3,1,4]) (by omega) (by rw [eH9];exact slice_row rfl rfl small5)
 rw [ri5] at e10 o10
 have n10:=x10.len
 obtain ⟨H11,eH11⟩:∃ H11,H11=H10++[rowB [2,0,3,1,4] 0]:=⟨_,rfl⟩
 have x11:Ext H10 H11:=by rw [eH11];exact .app .refl
 have n11:=x11.len
 obtain ⟨H12,eH12⟩:∃ H12,H12=H11++[rowE encM 36 [(1,0),(3,1)] 0]:=⟨_,rfl⟩
 have x12:Ext H11 H12:=by rw [eH12];exact .app .refl
 have n12:=x12.len
 obtain ⟨_,H13,e13,x13,k3,rfl,o13⟩:=run_Make (base:=h.length) (h:=H12) (v:=.slice (some ⟨H10.length,0,0⟩) 5 5) (mv:=.slice (some ⟨H11.length,0,0⟩) 2 2) (o:=[2,0,3,1,4]) (ms:=[(1,0),(3,1)]) (by omega)
  (Ints.ext (by rw [eH11];exact slice_row rfl rfl small5) x12) (Rows.own (by rw [eH12];exact get_eq rfl) rfl (by decide)) (by decide)
 rw [mk5] at e13 o13
 have n13:=x13.len
 have ok1:=o2.one
 have ok2:=o10.one
 have ok3:=o13.one
 have i1:Ints H2 k1 [2,0,-1,-1]:=ownE_ints o2 ⟨by decide,by decide⟩
 have i2:Ints H10 k2 [0,2,4]:=own_ints o10 ⟨by decide,by decide⟩
 have i3:Ints H13 k3 [0,1,2,3,4]:=ownE_ints o13 ⟨by decide,by decide⟩
 have y10:=(x11.trans x12).trans x13
 have y2:=(((((x3.trans x5).trans x7).trans x8).trans x9).trans x10).trans y10
 obtain ⟨K1,eK1⟩:∃ K1,K1=H13++[rowB [2,0,-1,-1] 0]:=⟨_,rfl⟩
 have z1:Ext H13 K1:=by rw [eK1];exact .app .refl
 obtain ⟨K2,eK2⟩:∃ K2,K2=K1++[rowB [0,2,4] 0]:=⟨_,rfl⟩
 have z2:Ext K1 K2:=by rw [eK2];exact .app .refl
 obtain ⟨K3,eK3⟩:∃ K3,K3=K2++[rowB [0,1,2,3,4] 0]:=⟨_,rfl⟩
 have z3:Ext K2 K3:=by rw [eK3];exact .app .refl
 have q1:=run_eqI (base:=h.length) (h:=K1) (b:=.slice (some ⟨H13.length,0,0⟩) 4 4) (m:=[2,0,-1,-1]) (i1.ext (y2.trans z1)) (by rw [eK1];exact slice_row rfl rfl ⟨by decide,by decide⟩)
 have q2:=run_eqI (base:=h.length) (h:=K2) (b:=.slice (some ⟨K1.length,0,0⟩) 3 3) (m:=[0,2,4]) (i2.ext ((y10.trans z1).trans z2)) (by rw [eK2];exact slice_row rfl rfl ⟨by decide,by decide⟩)
 have q3:=run_eqI (base:=h.length) (h:=K3) (b:=.slice (some ⟨K2.length,0,0⟩) 5 5) (m:=[0,1,2,3,4]) (i3.ext ((z1.trans z2).trans z3)) (by rw [eK3];exact slice_row rfl rfl ⟨by decide,by decide⟩)
 rw [decide_eq_true rfl] at q1 q2 q3
 have xf:Ext h K3:=((((x1.trans x2).trans y2).trans z1).trans z2).trans z3
 rw [show ((2:Nat):Int)=2 from rfl] at e1 e3 e5
 rw [show ((4:Nat):Int)=4 from rfl] at e7
 refine callL_run func28 rfl rfl ?_
 have hsp:=@Nat.succ_ne_zero;repeat' (first|simp (disch:=first|exact dqb|fail) only [go_sem,↓reduceIte,hsp,e1,e2,e3,e4,e5,e6,e7,bs2,← eH8,e8,bs5,← eH9,e10,← eH11,bsM2,← eH12,e13,eq_self,decide_true,bs4,← eK1,q1,bs3,← eK2,q2,← eK3,q3]|refine WP_drw ?_|refine cnd_intro (fun hsp=>?_) fun hsp=>?_)
 exact fB rfl xf
end Go.AM
namespace Go.AM
open Go.Proofs.Try
attribute [-go_sem] put_ne put_same
attribute [local go_sem ↓] put_if
theorem perm_ord {n:Nat} {o:List Int} (h:o.Perm (upto n)):Ord n o:=⟨by rw [h.length_eq,upto_len],fun x hx=>upto_mem.1 (h.mem_iff.1 hx),h.nodup_iff.2 (upto_nd n)⟩
structure Risn (h H:Heap) (v0 v1:AVal) (l0 l1:List Int) (n:Nat) (w:AVal) (o:List Int):Prop where
 bd:1≤n∧n≤7
 ext:Ext h H
 own:OwnE encI 3 (h.length+2) H w o
 ord:Ord n o
 len:h.length+2≤H.length
 q:SpAt H (h.length+1) v1 l1 0
end Go.AM
namespace Go.AM
open Go.Proofs.Try
attribute [-go_sem] put_ne put_same
attribute [local go_sem ↓] put_if
structure MadeOk (T:Int) (C:List Int) (N:Nat):Prop where
 tb:1≤T∧T≤8
 n:1≤C.length∧C.length≤N
 c:∀ x ∈ C,0≤x∧x≤2 ^ T.toNat-1
 d:C.Nodup
theorem MadeOk.lac {T:Int} {C o:List Int} {N:Nat} {R:List Rw3} (x:MadeOk T C N) (hN:N≤7) (hR:R.length≤12) (hr:∀ r ∈ R,SeenOk T C o r):LacOk ⟨T,C,R⟩ :=
 ⟨x.tb,⟨x.n.1,by have:=x.n.2;simp only;omega⟩,hR,x.c,fun r h=>by
  obtain ⟨a,b,c,d⟩:=hr r h
  have h1:r.2.2.toNat≤r.2.1.toNat:=by rw [← d];exact Nat.and_le_right
  refine ⟨by omega,b,⟨c,by simp only;omega⟩,?_⟩
  rw [← d,Nat.and_assoc,Nat.and_self],x.d⟩
theorem stL48 {base:Nat} {l:List Oper} {s:St} {Q:AExit→St→Prop}:WP prog raw base (.region 12 l.toArray true) s Q=WPS prog raw base (.region 12 l.toArray true) s Q:=WP_stop
attribute [local go_sem ↓ 3000] stL48
set_option maxRecDepth 100000 in
set_option maxHeartbeats 4000000 in
theorem run_Made {base id k0 N:Nat} {h:Heap} {v:AVal} {silk:List Int} (hb:base≤h.length) (hS:SpAt h id v silk k0) (hk:k0≤100000) (hN:1≤N∧N≤7) :
  Ret prog raw base (.fn 44 [] []) [.ptr (some ⟨id,0,0⟩),.int .i64 (N:Int)] h (fun w H=>∃ T C o cv ov k',w=.tuple [.agg [.int .i64 T,cv,.slice none 0 0],ov]∧(k0≤k'∧k'≤k0+100)∧SpE h id v silk k' H∧Own encI 3 h.length H cv C∧OwnE encI 3 h.length H ov o∧MadeOk T C N∧Ord C.length o):=by
 have hid:=lt_of_get hS.1
 have hS0:SpAt (h++[lacB 0 (.slice none 0 0) (.slice none 0 0)]) id v silk k0:=hS.app
 have b1:=up_bd (silk:=silk) (k:=k0) (n:=8-1) (by omega)
 have b2:=up_bd (silk:=silk) (k:=k0+1) (n:=(N:Int)-1) (by omega)
 obtain ⟨G,eG⟩:∃ G,G=h++[lacB 0 (.slice none 0 0) (.slice none 0 0)]:=⟨_,rfl⟩
 rw [← eG] at hS0
 have lG:G.length=h.length+1:=by rw [eG];simp
 have xG:Ext h G:=by rw [eG];exact .app .refl
 have g0:G[h.length]?=some (lacB 0 (.slice none 0 0) (.slice none 0 0)):=by rw [eG];exact get_eq rfl
 have f1:=fun base=>run_from (base:=base) (lo:=1) (hi:=8) hS0 (by omega) (by omega) (by omega)
 obtain ⟨T,eT⟩:∃ T,T=1+up silk k0 (8-1):=⟨_,rfl⟩
 have hT:1≤T∧T≤8:=by omega
 rw [← eT] at f1
 obtain ⟨G1,eG1⟩:∃ G1,G1=G.set id (spB v silk (k0+1)):=⟨_,rfl⟩
 rw [← eG1] at f1
 have q1:SpE h id v silk (k0+1) G1:=by rw [eG1];exact ((SpE.refl hS).ext xG).step hid
 have l1:G1.length=h.length+1:=by rw [eG1,List.length_set,lG]
 have g1:G1[h.length]?=some (lacB 0 (.slice none 0 0) (.slice none 0 0)):=by rw [eG1,List.getElem?_set_ne (by omega)];exact g0
 obtain ⟨G2,eG2⟩:∃ G2,G2=G1++[lacB T (.slice none 0 0) (.slice none 0 0)]:=⟨_,rfl⟩
 have q2:SpE h id v silk (k0+1) G2:=by rw [eG2];exact q1.app
 have l2:G2.length=h.length+2:=by rw [eG2];simp [l1]
 have g2:G2[h.length]?=some (lacB 0 (.slice none 0 0) (.slice none 0 0)):=by rw [eG2];exact get_app g1
 have c2:G2[h.length+1]?=some (lacB T (.slice none 0 0) (.slice none 0 0)):=by rw [eG2];exact get_eq (by rw [l1])
 have f2:=fun base=>run_from (base:=base) (lo:=1) (hi:=(N:Int)) (q2.at hS) (by omega) (by omega) (by omega)
 obtain ⟨M,eM⟩:=Int.eq_ofNat_of_zero_le (show 0≤1+up silk (k0+1) ((N:Int)-1) by omega)
 have hM:1≤M∧M≤N:=by omega
 rw [eM] at f2
 obtain ⟨G3,eG3⟩:∃ G3,G3=G2.set id (spB v silk (k0+1+1)):=⟨_,rfl⟩
 rw [← eG3] at f2
 have q3:SpE h id v silk (k0+1+1) G3:=by rw [eG3];exact q2.step hid
 have l3:G3.length=h.length+2:=by rw [eG3,List.length_set,l2]
 have g3:G3[h.length]?=some (lacB 0 (.slice none 0 0) (.slice none 0 0)):=by rw [eG3,List.getElem?_set_ne (by omega)];exact g2
 have c3:G3[h.length+1]?=some (lacB T (.slice none 0 0) (.slice none 0 0)):=by rw [eG3,List.getElem?_set_ne (by omega)];exact c2
 obtain ⟨hw1,hw2⟩:=pow_le8 hT
 have sh:=shl_one (w:=T) (by omega) (by omega)
 obtain ⟨W,eW⟩:∃ W:Int,W=2 ^ T.toNat:=⟨_,rfl⟩
 rw [← eW] at sh hw1 hw2
 clear eT eM b1 b2
 rw [show h.length+1=G1.length from l1.symm] at c2 c3
 unfold lacB at eG eG2
 refine ret_raw func44 rfl (by kernel_rfl) ?_
 have hsp:=@Nat.succ_ne_zero;repeat' (first|simp (disch:=first|exact dqc|fail) only [go_sem,↓reduceIte,hsp,← eG,f1,← eG2,f2]|refine WP_drw ?_|refine cnd_intro (fun hsp=>?_) fun hsp=>?_)
 refine WP_count [(7,7),(14,46)] 0 M (Nat.zero_le _) (fun _ i fr K=>fr 14=.int .i64 (i:Int)∧∃ C cv k',(k0≤k'∧k'≤k0+2+4 * i)∧SpE h id v silk k' K∧K[h.length]?=some (lacB 0 (.slice none 0 0) (.slice none 0 0))∧K[G1.length]?=some (lacB T cv (.slice none 0 0))∧Own encI 3 (h.length+2) K cv C∧(0<i→1≤C.length)∧C.length≤i∧(∀ x ∈ C,0≤x∧x≤W-1)∧C.Nodup∧h.length+2≤K.length) ?_ ?_ ?_
 ·exact ⟨by (simp (disch:=first|exact dqc|fail) only [go_sem,↓reduceIte,Int.natCast_zero];first|done|rfl),[],_,k0+1+1,by omega,q3,g3,c3,Own.nil,by omega,by simp,by simp,by simp,by omega⟩
 ·rintro i fr K hi0 hi hA ⟨r14,C,cv,k',hk',xK,gK,cK,oC,hC0,hCl,hCb,hCn,lK⟩
  have p0:=hA 0 rfl
  have p4:=hA 4 rfl
  have p5:=hA 5 rfl
  have p6:=hA 6 rfl
  have p13:=hA 13 rfl
  try simp (disch:=first|exact dqc|fail) only [go_sem,↓reduceIte] at p0 p4 p5 p6 p13
  have hlt:((i:Int)<(M:Int))=True:=eq_true (by omega)
  have oc:=oC.one
  have hSK:=xK.at hS
  have ub1:=up_bd (silk:=silk) (k:=k') (n:=W-1) (by omega)
  have e1:=fun base=>run_upto (base:=base) (n:=W-1) hSK (by omega) (by omega)
  obtain ⟨K1,eK1⟩:∃ K1,K1=K.set id (spB v silk (k'+1)):=⟨_,rfl⟩
  rw [← eK1] at e1
  have xK1:SpE h id v silk (k'+1) K1:=by rw [eK1];exact xK.step hid
  have ub2:=up_bd (silk:=silk) (k:=k'+1) (n:=2) (by omega)
  have e2:=fun base=>run_upto (base:=base) (n:=2) (xK1.at hS) (by omega) (by omega)
  obtain ⟨z,ez⟩:=Int.eq_ofNat_of_zero_le ub2.1
  rw [ez] at e2 ub2
  obtain ⟨K2,eK2⟩:∃ K2,K2=K.set id (spB v silk (k'+1+1)):=⟨_,rfl⟩
  have eK12:K1.set id (spB v silk (k'+1+1))=K2:=by rw [eK1,List.set_set,eK2]
  rw [eK12] at e2
  generalize up silk k' (W-1)=x0 at ub1 e1
  have cK1:K1[G1.length]?=some (lacB T cv (.slice none 0 0)):=by rw [eK1,List.getElem?_set_ne (by omega)];exact cK
  unfold lacB at cK
  have hsp:=@Nat.succ_ne_zero;repeat' (first|simp (disch:=first|exact dqc|fail) only [go_sem,↓reduceIte,hsp,r14,p0,p4,p5,p6,p13,hlt,cK,sh,e1,e2]|refine WP_drw ?_|refine cnd_intro (fun hsp=>?_) fun hsp=>?_)
  refine WP_count [(7,7),(24,34)] 0 z (Nat.zero_le _) (fun _ j fr K'=>fr 24=.int .i64 (j:Int)∧∃ x k2,fr 7=.int .i64 x∧(0≤x∧x≤W-1)∧k2=k'+2+j∧K'=K.set id (spB v silk k2)) ?_ ?_ ?_
  ·exact ⟨by (simp (disch:=first|exact dqc|fail) only [go_sem,↓reduceIte,Int.natCast_zero];first|done|rfl),x0,k'+1+1,by simp (disch:=first|exact dqc|fail) only [go_sem,↓reduceIte],by omega,by omega,eK2⟩
  ·rintro j fr2 K' hj0 hj hA2 ⟨r24,x,k2,r7,hx,hk2,eK'⟩
   have q0:=hA2 0 rfl
   have q4:=hA2 4 rfl
   have q5:=hA2 5 rfl
   have q6:=hA2 6 rfl
   have q13:=hA2 13 rfl
   have q14:=hA2 14 rfl
   have q23:=hA2 23 rfl
   try simp (disch:=first|exact dqc|fail) only [go_sem,↓reduceIte,p0,p4,p5,p6,p13] at q0 q4 q5 q6 q13 q14 q23
   have hlt2:((j:Int)<(z:Int))=True:=eq_true (by omega)
   have cK':K'[G1.length]?=some (lacB T cv (.slice none 0 0)):=by rw [eK',List.getElem?_set_ne (by omega)];exact cK
   have xK':SpE h id v silk k2 K':=by rw [eK'];exact xK.step hid
   have ub3:=up_bd (silk:=silk) (k:=k2) (n:=W-1) (by omega)
   have e3:=fun base=>run_upto (base:=base) (n:=W-1) (xK'.at hS) (by omega) (by omega)
   obtain ⟨y,ey⟩:=Int.eq_ofNat_of_zero_le ub3.1
   rw [ey] at e3 ub3
   obtain ⟨x',ex'⟩:=Int.eq_ofNat_of_zero_le hx.1
   rw [ex'] at r7 hx
   have an:=andN (t:=3) (a:=x') (b:=y) (by omega) (by omega)
   have hle:x' &&& y≤x':=Nat.and_le_left
   have eK'':K'.set id (spB v silk (k2+1))=K.set id (spB v silk (k2+1)):=by rw [eK',List.set_set]
   rw [eK''] at e3
   unfold lacB at cK'
   have hsp:=@Nat.succ_ne_zero;repeat' (first|simp (disch:=first|exact dqc|fail) only [go_sem,↓reduceIte,hsp,r24,r7,q0,q4,q5,q6,q13,q14,q23,hlt2,cK',sh,e3,an]|refine WP_drw ?_|refine cnd_intro (fun hsp=>?_) fun hsp=>?_)
   exact ⟨agq,by omega,_,k2+1,rfl,by omega,by omega,rfl⟩
  ·rintro fr2 K' hA2 ⟨r24,x,k2,r7,hx,hk2,eK'⟩
   have q0:=hA2 0 rfl
   have q4:=hA2 4 rfl
   have q5:=hA2 5 rfl
   have q6:=hA2 6 rfl
   have q13:=hA2 13 rfl
   have q14:=hA2 14 rfl
   have q23:=hA2 23 rfl
   try simp (disch:=first|exact dqc|fail) only [go_sem,↓reduceIte,p0,p4,p5,p6,p13] at q0 q4 q5 q6 q13 q14 q23
   have hlt2:((z:Int)<(z:Int))=False:=eq_false (by omega)
   have cK':K'[G1.length]?=some (lacB T cv (.slice none 0 0)):=by rw [eK',List.getElem?_set_ne (by omega)];exact cK
   have gK':K'[h.length]?=some (lacB 0 (.slice none 0 0) (.slice none 0 0)):=by rw [eK',List.getElem?_set_ne (by omega)];exact gK
   have xK':SpE h id v silk k2 K':=by rw [eK'];exact xK.step hid
   have oC':Own encI 3 (h.length+2) K' cv C:=by rw [eK'];exact oC.set (by omega)
   have lK':K'.length=K.length:=by rw [eK',List.length_set]
   have iC:Ints K' cv C:=own_ints oC' ⟨by omega,fun y hy=>by have:=hCb y hy;omega⟩
   have hct:=fun base=>run_contains (base:=base) (x:=x) iC
   have cK'':=cK'
   unfold lacB at cK''
   by_cases cm:x ∈ C
   ·rw [decide_eq_true cm] at hct
    have hsp:=@Nat.succ_ne_zero;repeat' (first|simp (disch:=first|exact dqc|fail) only [go_sem,↓reduceIte,hsp,r14,r24,r7,q0,q4,q5,q6,q13,q14,q23,p0,p4,p5,p6,p13,hlt2,cK'',hct]|refine WP_drw ?_|refine cnd_intro (fun hsp=>?_) fun hsp=>?_)
    exact ⟨agq,by omega,C,cv,k2,by omega,xK',gK',rfl,oC',fun _=>List.length_pos_of_mem cm,by omega,hCb,hCn,by omega⟩
   ·rw [decide_eq_false cm] at hct
    obtain ⟨w',K3,ea,oW,lW,eW2,oneW,kW⟩:=OwnE.snocI (base:=base) (x:=x) (.inl oC') (by omega) (by omega) (by omega)
    have cK3:=kW.box cK'
    have gK3:=kW.box gK'
    unfold lacB at cK3
    have xK3:SpE h id v silk k2 K3:=eW2 _ (by rw [List.length_set];omega) xK'
    have hsp:=@Nat.succ_ne_zero;repeat' (first|simp (disch:=first|exact dqc|fail) only [go_sem,↓reduceIte,hsp,r14,r24,r7,q0,q4,q5,q6,q13,q14,q23,p0,p4,p5,p6,p13,hlt2,cK'',hct,ea,cK3]|refine WP_drw ?_|refine cnd_intro (fun hsp=>?_) fun hsp=>?_)
    refine ⟨agq,by omega,C++[x],w',k2,by omega,Ext.set xK3 (by rw [List.length_set];omega),gK3,rfl,Own.setBox oW cK3,fun _=>by simp,by simp;omega,fun y hy=>?_,?_,by omega⟩
    ·rcases List.mem_append.1 hy with hy|hy
     ·exact hCb y hy
     ·rw [List.mem_singleton] at hy;rw [hy];exact hx
    ·exact nodup_snoc.2 ⟨hCn,cm⟩
 ·rintro fr K hA ⟨r14,C,cv,k',hk',xK,gK,cK,oC,hC0,hCl,hCb,hCn,lK⟩
  have p0:=hA 0 rfl
  have p4:=hA 4 rfl
  have p5:=hA 5 rfl
  have p6:=hA 6 rfl
  have p13:=hA 13 rfl
  try simp (disch:=first|exact dqc|fail) only [go_sem,↓reduceIte] at p0 p4 p5 p6 p13
  have hlt:((M:Int)<(M:Int))=False:=eq_false (by omega)
  have oc:=oC.one
  have hc1:=hC0 (by omega)
  have iC:Ints K cv C:=own_ints oC ⟨by omega,fun y hy=>by have:=hCb y hy;omega⟩
  have hlc:=lenI iC
  obtain ⟨w,K2,eo,y,o,oo,hp⟩:=run_order (base:=base) (n:=C.length) (h:=K) (by omega) (xK.at hS) (by omega) (by omega)
  have xK2:SpE h id v silk (k'+C.length) K2:=(xK.step (k':=k'+C.length) hid).trans y
  have ow:=oo.one
  have ly:=y.len
  have cK2:K2[G1.length]?=some (lacB T cv (.slice none 0 0)):=y.get (by omega) cK
  have gK2:K2[h.length]?=some (lacB 0 (.slice none 0 0) (.slice none 0 0)):=y.get (by omega) gK
  have oC2:Own encI 3 (h.length+2) K2 cv C:=(oC.set (by omega)).ext y
  unfold lacB at cK cK2 gK2
  have hsp:=@Nat.succ_ne_zero;repeat' (first|simp (disch:=first|exact dqc|fail) only [go_sem,↓reduceIte,hsp,r14,p0,p4,p5,p6,p13,hlt]|refine WP_drw ?_|refine cnd_intro (fun hsp=>?_) fun hsp=>?_)
  refine WPS_go ?_
  have hlow:refsLow K.length (.agg [.int .i64 T,cv,.slice none 0 0]):=by
   have:=oC.low_refs
   simpa [refsLow,AVal.refs,refsL] using this
  refine WP_wild [⟨0,44,6,⟨G1.length,0,0⟩,.agg [.int .i64 T,cv,.slice none 0 0],6⟩] (by kernel_rfl) (by kernel_rfl) (by kernel_rfl) ⟨hlow,trivial⟩ fun K3 hK=>?_
  iterate 8
   rw [TRS_cons]
   refine ⟨by first|(simp (disch:=first|exact dqc|fail) only [go_sem,↓reduceIte,p0,p4,p5,p6,p13,cK,hlc,eo,cK2,gK2,ldsQ_cons,ldsQ_nil,grdQ_cons,grdQ_nil,if_true,Nat.reduceLeDiff];done)|exact trivial,?_⟩
   simp (disch:=first|exact dqc|fail) only [go_sem,↓reduceIte,p0,p4,p5,p6,p13,cK,hlc,eo,cK2,gK2]
  rw [TRS_nil]
  refine ⟨by first|(simp (disch:=first|exact dqc|fail) only [go_sem,↓reduceIte,p0,p4,p5,p6,p13,cK,hlc,eo,cK2,gK2,ldsQ_cons,ldsQ_nil,grdQ_cons,grdQ_nil,if_true,Nat.reduceLeDiff];done)|exact trivial,?_⟩
  subst hK
  have hsp:=@Nat.succ_ne_zero;repeat' (first|simp (disch:=first|exact dqc|fail) only [go_sem,↓reduceIte,hsp,p0,p4,p5,p6,p13]|refine WP_drw ?_|refine cnd_intro (fun hsp=>?_) fun hsp=>?_)
  exact ⟨T,C,o,cv,_,k'+C.length,rfl,by omega,Ext.set xK2 (by rw [List.length_set];omega),(oC2.setBox gK2).low (by omega),(oo.setBox gK2).low (by omega),⟨hT,by omega,by rw [← eW];exact hCb,hCn⟩,perm_ord hp⟩
end Go.AM
namespace Go.AM
open Go.Proofs.Try
attribute [-go_sem] put_ne put_same
attribute [local go_sem ↓] put_if
end Go.AM
namespace Go.AM
open Go.Proofs.Try
attribute [-go_sem] put_ne put_same
attribute [local go_sem ↓] put_if
structure Strt (G H:Heap) (id:Nat) (v:AVal) (silk:List Int) (b:Nat) (T:Int) (C:List Int) (R:List Rw3) (o:List Int) (cv rv ov:AVal) (k N most:Nat):Prop where
 sp:SpE G id v silk k H
 k:k≤1000
 g:H[b]?=some (lacB T cv rv)
 b:G.length≤b∧b<H.length
 oC:OwnE encI 3 G.length H cv C
 oR:OwnE encR 70 G.length H rv R
 oO:OwnE encI 3 G.length H ov o
 made:MadeOk T C N
 ord:Ord C.length o
 seen:∀ r ∈ R,SeenOk T C o r
 rl:R.length≤most
section
variable {G H:Heap} {id:Nat} {v:AVal} {silk:List Int} {b:Nat} {T:Int} {C:List Int} {R:List Rw3} {o:List Int} {cv rv ov:AVal} {k N most:Nat}
end
end Go.AM
namespace Go.AM
section
variable {n:Nat} {os:List (List Int)} (hn:os.Nodup) (ho:∀ o ∈ os,Ord n o)
include hn ho
end
def lookR (L:Lac) (p k:Nat):Rw3:=((p:Int),2 ^ L.T.toNat-1,L.C.getD k 0)
def lvsK (os:List (List Int)) (p k:Nat):Int:=grt (lst (fun k=>(os.countP fun o=>decide (o.getD p 0=(k:Int)):Nat)) k)
theorem lvsK_all {n:Nat} {os:List (List Int)} {p:Nat}:lvsK os p n=lvsN n os p:=rfl
theorem cnt_ok {L:Lac} (h:chkL L=0):cntE L=(((fnd L).length:Int),0):=by
 unfold cntE fndE
 rw [if_neg (by simp [h])]
 by_cases c:fnd L=[]
 ·rw [if_pos c];simp [c]
 ·rw [if_neg c];simp
end Go.AM
namespace Go.AM
open Go.Proofs.Try
attribute [-go_sem] put_ne put_same
attribute [local go_sem ↓] put_if
end Go.AM
namespace Go.AM
open Go.Proofs.Try
attribute [-go_sem] put_ne put_same
attribute [local go_sem ↓] put_if
end Go.AM
