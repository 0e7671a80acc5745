/-
  Contracts: a plan that is best (follow).
-/
import Derived.Test.YtcemgempgbjbeaaGreatU14
import Derived.Test.YtcemgempgbjbeaaGreatU12
set_option linter.unusedSimpArgs false
set_option linter.unusedVariables false
namespace Go.AM
open Go.Proofs.Tryz
attribute [-go_sem] put_ne put_same
attribute [local go_sem ↓] put_if
def stF (b:Bool) (R:Rib) (x j:Nat):Fol:=((cutL R x).take j).foldl (folF b (folD b R)) ⟨(folD b R (x+1)).e,(folD b R (x+1)).c,noC,x+1⟩
theorem stF_succ {b:Bool} {R:Rib} {x j:Nat} {c:Ct × Int × Int} (h:(cutL R x)[j]?=some c):stF b R x (j+1)=folF b (folD b R) (stF b R x j) c:=by
 unfold stF
 rw [List.take_add_one,h,List.foldl_append];rfl
theorem stF_all {b:Bool} {R:Rib} {x:Nat} (hR:RibOk R) (hx:x<R.L.toNat):stF b R x (cutL R x).length=folD b R x:=by
 unfold stF
 rw [List.take_length,folD_step hR hx]
theorem stF_b {b:Bool} {R:Rib} {x j:Nat} (hR:RibOk R) (hx:x<R.L.toNat):(stF b R x j).to≤R.L.toNat:=by
 unfold stF
 refine foldl_inv (I:=fun s:Fol=>s.to≤R.L.toNat) (by simp only;omega) fun s c hc h=>?_
 have hb:=(cutL_b hR hx (List.mem_of_mem_take hc)).1
 unfold folF
 split
 ·simp only;omega
 ·exact h
abbrev thB' (b:Bool):ABlk:=⟨.cells [thV b] 150 false false,0⟩
structure FolB (b:Bool) (h H:Heap) (id n bx r1 p8 r2:Nat):Prop where
 x:Ext h H
 b0:H[h.length]?=some (pB id)
 b1:H[h.length+1]?=some (thB' b)
 b2:H[h.length+2]?=some (cutB noC)
 b7:H[bx]?=some (cslB (.slice (some ⟨r1,0,0⟩) n n))
 b8:H[p8]?=some (islB (.slice (some ⟨r2,0,0⟩) n n))
theorem FolB.ext {b:Bool} {h H H':Heap} {id n bx r1 p8 r2:Nat} (q:FolB b h H id n bx r1 p8 r2) (e:Ext H H'):FolB b h H' id n bx r1 p8 r2:=⟨q.x.trans e,e.get q.b0,e.get q.b1,e.get q.b2,e.get q.b7,e.get q.b8⟩
theorem FolB.set {b:Bool} {h H:Heap} {id n bx r1 p8 r2 i:Nat} {k:ABlk} (q:FolB b h H id n bx r1 p8 r2) (h0:h.length+2<i) (h1:i ≠ bx) (h2:i ≠ p8):FolB b h (H.set i k) id n bx r1 p8 r2 :=
 ⟨q.x.set (by omega),by rw [List.getElem?_set_ne (by omega)];exact q.b0,by rw [List.getElem?_set_ne (by omega)];exact q.b1,by rw [List.getElem?_set_ne (by omega)];exact q.b2,by rw [List.getElem?_set_ne h1];exact q.b7,by rw [List.getElem?_set_ne h2];exact q.b8⟩
theorem mkI {H:Heap} {n:Nat} (h0:0<n) (h1:n<4294967296):makeSliceA prog H 35 (.int .i64 (n:Int)) (.int .i64 (n:Int))=some (.slice (some ⟨H.length,0,0⟩) n n,H++[rowB (lst (fun _=>0) n) 0]):=by
 rw [make_full Fc.el35 h0 h1]
 have hrep:∀ j,repCells [AVal.int .i64 0] j=ints (lst (fun _=>0) j):=fun j=>by
  induction j with
  | zero=>rfl
  | succ j ih =>
   rw [repCells,ih]
   simp [ints,lst,List.range_succ_eq_map,List.map_map]
 rw [hrep];rfl
theorem stN11 {base:Nat} {l:List Oper} {s:St} {Q:AExit→St→Prop}:WP prog raw base (.region 8 l.toArray true) s Q=WPS prog raw base (.region 8 l.toArray true) s Q:=WP_stop
attribute [local go_sem ↓ 3000] stN11
theorem stN11b {base:Nat} {l:List Oper} {s:St} {Q:AExit→St→Prop}:WP prog raw base (.region 14 l.toArray true) s Q=WPS prog raw base (.region 14 l.toArray true) s Q:=WP_stop
attribute [local go_sem ↓ 3000] stN11b
set_option maxRecDepth 100000 in
set_option maxHeartbeats 4000000 in
theorem run_follow {base id:Nat} {h:Heap} {b:Bool} {R:Rib} (hbf:b=false) (hb:base≤h.length) (hD:DskAt h id R) (hR:RibOk R) :
  Ret prog raw base (.fn 48 [] []) [.ptr (some ⟨id,0,0⟩),.agg [thV b]] h (fun w H=>Ext h H∧Own encC 95 h.length H w (pthL b R R.L.toNat 0)):=by
 have hDe:=fun H (e:Ext h H)=>hD.ext e
 obtain ⟨fv,wv,gd,hF,hW⟩:=hD
 have hL:=hR.L
 have lid:=lt_of_get gd
 have o1:=thV_one (b:=b)
 obtain ⟨n,en⟩:∃ n,n=R.L.toNat:=⟨_,rfl⟩
 have hLn:R.L=(n:Int):=by omega
 have dL:∀ z,ldB (some (false,z)) (some (dskB R.L fv wv R.F)) 0 0=some (.int .i64 (n:Int)):=fun z=>by rw [dsk_ld0,hLn]
 obtain ⟨G1,eG1⟩:∃ G1,G1=h++[pB id]++[thB' b]++[cutB noC]++[bstB (lst (fun _=>0) 122)]++[rowE encC 95 [noC] 0]:=⟨_,rfl⟩
 have x1:Ext h G1:=by rw [eG1];exact .app (.app (.app (.app (.app .refl))))
 have a0:G1[h.length]?=some (pB id):=by rw [eG1];exact get_app (get_app (get_app (get_app (get_eq rfl))))
 have a1:G1[h.length+1]?=some (thB' b):=by rw [eG1];exact get_app (get_app (get_app (get_eq (by simp))))
 have a2:G1[h.length+2]?=some (cutB noC):=by rw [eG1];exact get_app (get_app (get_eq (by simp)))
 have a3:G1[h.length+3]?=some (bstB (lst (fun _=>0) 122)):=by rw [eG1];exact get_app (get_eq (by simp))
 have a4:G1[h.length+4]?=some (rowE encC 95 [noC] 0):=by rw [eG1];exact get_eq (by simp)
 have lG1:G1.length=h.length+5:=by rw [eG1];simp
 have rw1:Rows encC G1 (.slice (some ⟨h.length+4,0,0⟩) 1 1) [noC]:=Rows.own a4 rfl (by simp)
 obtain ⟨w1,H1,e1,y1,rfl,gr1⟩:=run_repeat (base:=base) (n:=n) (by omega) rw1 (by omega)
 have lH1:=y1.len
 have gr1l:=lt_of_get gr1
 rw [lG1] at gr1 gr1l e1
 obtain ⟨r1,er1⟩:∃ r1,r1=h.length+5:=⟨_,rfl⟩
 rw [← er1] at gr1 gr1l e1
 obtain ⟨bx,ebx⟩:∃ bx,bx=H1.length:=⟨_,rfl⟩
 obtain ⟨H2,eH2⟩:∃ H2,H2=H1++[cslB (.slice (some ⟨r1,0,0⟩) n n)]:=⟨_,rfl⟩
 have y2:Ext H1 H2:=by rw [eH2];exact .app .refl
 have lH2:H2.length=bx+1:=by rw [eH2,ebx];simp
 have mk:=mkI (H:=H2) (n:=n) (by omega) (by omega)
 obtain ⟨H3,eH3⟩:∃ H3,H3=H2++[rowB (lst (fun _=>0) n) 0]:=⟨_,rfl⟩
 rw [← eH3,lH2] at mk
 have y3:Ext H2 H3:=by rw [eH3];exact .app .refl
 have lH3:H3.length=bx+2:=by rw [eH3];simp [lH2]
 obtain ⟨H4,eH4⟩:∃ H4,H4=H3++[islB (.slice (some ⟨bx+1,0,0⟩) n n)]:=⟨_,rfl⟩
 have y4:Ext H3 H4:=by rw [eH4];exact .app .refl
 have lH4:H4.length=bx+3:=by rw [eH4];simp [lH3]
 obtain ⟨H5,eH5⟩:∃ H5,H5=H4++[nB ((n:Int)-1)]:=⟨_,rfl⟩
 have y5:Ext H4 H5:=by rw [eH5];exact .app .refl
 have lH5:H5.length=bx+4:=by rw [eH5];simp [lH4]
 have z1:=x1.trans y1
 have z25:=((y2.trans y3).trans y4).trans y5
 have z5:=z1.trans z25
 have gd1:=x1.get gd
 have gd2:=(z1.trans y2).get gd
 have gd4:=((z1.trans y2).trans (y3.trans y4)).get gd
 have c0:=y1.get a0
 have c01:=y2.get c0
 have c04:=(y3.trans y4).get c01
 have hFB:FolB b h H5 id n bx r1 (bx+2) (bx+1):=by
  refine ⟨z5,(y1.trans z25).get a0,(y1.trans z25).get a1,(y1.trans z25).get a2,?_,?_⟩
  ·exact (y3.trans (y4.trans y5)).get (by rw [eH2];exact get_eq ebx)
  ·exact y5.get (by rw [eH4];exact get_eq (by omega))
 have f3:H5[h.length+3]?=some (bstB (bsL b R n)):=by rw [en,bsL_end];exact (y1.trans z25).get a3
 have f4:H5[r1]?=some (rowE encC 95 (nxS b R n) 0):=by rw [en,nxS_end,← en];exact z25.get gr1
 have f5:H5[bx+1]?=some (rowB (toS b R n) 0):=by rw [en,toS_end,← en];exact (y4.trans y5).get (by rw [eH3];exact get_eq (by omega))
 have f6:H5[bx+3]?=some (nB ((n:Int)-1)):=by rw [eH5];exact get_eq (by omega)
 have hu:H1.length=bx:=ebx.symm
 unfold pB at a0 c0 c01 c04
 have eG1':h++[(⟨.cells [.ptr (some ⟨id,0,0⟩)] 142 false false,0⟩:ABlk)]++[⟨.cells [thV b] 150 false false,0⟩]++[⟨.cells [.int .i64 (-1),.int .i64 0,.bool false] 95 false false,0⟩]++[⟨.cells (ints (lst (fun _=>0) 122)) 253 false false,0⟩]++[rowE encC 95 [⟨-1,0,false⟩] 0]=G1:=eG1.symm
 unfold cslB at eH2
 unfold islB at eH4
 unfold nB at eH5
 have bs0:=fun lit H=>bsC1 (lit:=lit) (H:=H) (c:=⟨-1,0,false⟩)
 refine ret_raw func48 rfl (by kernel_rfl) ?_
 have hsp:=@Nat.succ_ne_zero;repeat' (first|simp (disch:=first|exact dqb|fail) only [go_sem,↓reduceIte,hsp,bs0,gd,dL,eG1',a0,gd1,e1,← eH2,c01,gd2,mk,← eH4,hu,lH2,lH3,lH4,c04,gd4,← eH5]|refine WP_drw ?_|refine cnd_intro (fun hsp=>?_) fun hsp=>?_)
 refine WP_count [(9,53),(56,90)] 0 n (Nat.zero_le _) (fun _ i fr H=>∃ a,fr 9=.ptr (some ⟨a,0,0⟩)∧H[a]?=some (nB ((n:Int)-1-(i:Int)))∧bx+3≤a∧FolB b h H id n bx r1 (bx+2) (bx+1)∧H[h.length+3]?=some (bstB (bsL b R (n-i)))∧H[r1]?=some (rowE encC 95 (nxS b R (n-i)) 0)∧H[bx+1]?=some (rowB (toS b R (n-i)) 0)) ?_ ?_ ?_
 ·refine ⟨bx+3,by simp (disch:=first|exact dqb|fail) only [go_sem,↓reduceIte],by rw [f6];simp,Nat.le_refl _,hFB,by rw [Nat.sub_zero];exact f3,by rw [Nat.sub_zero];exact f4,by rw [Nat.sub_zero];exact f5⟩
 ·rintro i fr H hi0 hi hA ⟨a,r9,ga,la,hB,gb,gn,gt⟩
  have p2:=hA 2 rfl
  have p3:=hA 3 rfl
  have p4:=hA 4 rfl
  have p5:=hA 5 rfl
  have p6:=hA 6 rfl
  have p7:=hA 7 rfl
  have p8:=hA 8 rfl
  try simp (disch:=first|exact dqb|fail) only [go_sem,↓reduceIte] at p2 p3 p4 p5 p6 p7 p8
  obtain ⟨x,ex⟩:∃ x,x=n-(i+1):=⟨_,rfl⟩
  have hx:x<R.L.toNat:=by omega
  rw [show (n:Int)-1-(i:Int)=(x:Int) by omega] at ga
  rw [show n-i=x+1 by omega] at gb gn gt
  have hge:((x:Int) ≥ 0)=True:=eq_true (by omega)
  have la2:=lt_of_get ga
  have lb:=lt_of_get gb
  have ln:=lt_of_get gn
  have lt:=lt_of_get gt
  have l7:=lt_of_get hB.b7
  have l8:=lt_of_get hB.b8
  obtain ⟨e0,ee0⟩:∃ e0,e0=(folD b R (x+1)).e:=⟨_,rfl⟩
  obtain ⟨c0,ec0⟩:∃ c0,c0=(folD b R (x+1)).c:=⟨_,rfl⟩
  have ld1:ldB (some (true,2)) (some (bstB (bsL b R (x+1)))) 0 ((x+1) * 2)=some (.agg [.int .i64 e0,.int .i64 c0]):=by
   rw [ldC2 bsL_len (by omega),bsL_e (by omega) (Nat.le_refl _),bsL_c (by omega) (Nat.le_refl _),← ee0,← ec0]
  have st1:∀ (K:ABlk→Heap),stQ base (h.length+3) (some (bstB (bsL b R (x+1)))) 0 (x * 2) [.int .i64 e0,.int .i64 c0] K=some (K (bstB (bsP b R x e0 c0))):=fun K=>by rw [stC2 bsL_len (by omega),bsL_set (by omega)]
  have ex1:((x:Int)+1).toNat=x+1:=by omega
  obtain ⟨Ha,eHa⟩:∃ Ha,Ha=H.set (h.length+3) (bstB (bsP b R x e0 c0)):=⟨_,rfl⟩
  have lHa:Ha.length=H.length:=by rw [eHa,List.length_set]
  have hBa:FolB b h Ha id n bx r1 (bx+2) (bx+1):=by rw [eHa];exact hB.set (by omega) (by omega) (by omega)
  have ga1:Ha[a]?=some (nB (x:Int)):=by rw [eHa,List.getElem?_set_ne (by omega)];exact ga
  have gb1:Ha[h.length+3]?=some (bstB (bsP b R x e0 c0)):=by rw [eHa,List.getElem?_set_self lb]
  have gn1:Ha[r1]?=some (rowE encC 95 (nxP b R x noC) 0):=by rw [eHa,List.getElem?_set_ne (by omega),← nxS_P];exact gn
  have gt1:Ha[bx+1]?=some (rowB (toS b R (x+1)) 0):=by rw [eHa,List.getElem?_set_ne (by omega)];exact gt
  have iT1:=ints_rowB gt1 (toS_small hR) (toS_len.trans en.symm).symm
  have st2:∀ (K:ABlk→Heap),stQ base (bx+1) (some (rowB (toS b R (x+1)) 0)) 0 x [.int .i64 ((x:Int)+1)] K=some (K (rowB (toP b R x ((x:Int)+1)) 0)):=fun K=>by rw [stQ_row (by rw [toS_len];exact hx),toS_set hx]
  obtain ⟨H1',eH1'⟩:∃ H1',H1'=Ha.set (bx+1) (rowB (toP b R x ((x:Int)+1)) 0):=⟨_,rfl⟩
  have lH1':H1'.length=H.length:=by rw [eH1',List.length_set,lHa]
  have hB1:FolB b h H1' id n bx r1 (bx+2) (bx+1):=by rw [eH1'];exact hBa.set (by omega) (by omega) (by omega)
  have ga2:H1'[a]?=some (nB (x:Int)):=by rw [eH1',List.getElem?_set_ne (by omega)];exact ga1
  have gb2:H1'[h.length+3]?=some (bstB (bsP b R x e0 c0)):=by rw [eH1',List.getElem?_set_ne (by omega)];exact gb1
  have gn2:H1'[r1]?=some (rowE encC 95 (nxP b R x noC) 0):=by rw [eH1',List.getElem?_set_ne (by omega)];exact gn1
  have gt2:H1'[bx+1]?=some (rowB (toP b R x ((x:Int)+1)) 0):=by rw [eH1',List.getElem?_set_self (by omega)]
  obtain ⟨w3,H3',e3,rfl,eH3'⟩:=run_cuts (base:=base) (id:=id) (x:=x) (h:=H1')
  have x3:Ext H1' H3':=by rw [eH3'];exact .app (.app .refl)
  have l3:H3'.length=H1'.length+2:=by rw [eH3'];simp
  have gdb:H3'[H1'.length]?=some (pB id):=by rw [eH3'];exact get_app (get_eq rfl)
  have gfb:H3'[H1'.length+1]?=some (nB (x:Int)):=by rw [eH3'];exact get_eq (by simp)
  have b0':=hB1.b0
  have b8:=hB.b8
  have b8a:=hBa.b8
  unfold nB at ga ga1 ga2
  unfold bstB at ld1 st1 gb eHa
  unfold islB at b8 b8a
  unfold pB at b0'
  have hsp:=@Nat.succ_ne_zero;repeat' (first|simp (disch:=first|exact dqb|fail) only [go_sem,↓reduceIte,hsp,r9,p2,p3,p4,p5,p6,p7,p8,ga,hge]|refine WP_drw ?_|refine cnd_intro (fun hsp=>?_) fun hsp=>?_)
  refine WPS_go ?_
  refine WP_loose [⟨1,35,8,⟨bx+2,0,0⟩,.slice (some ⟨bx+1,0,0⟩) n n,12⟩,⟨2,3,9,⟨a,0,0⟩,.int .i64 (x:Int),12⟩,⟨7,3,9,⟨a,0,0⟩,.int .i64 (x:Int),12⟩] (by kernel_rfl) (by kernel_rfl) ⟨refsLow_slice (by omega),refsLow_int,refsLow_int,trivial⟩ fun K hK=>?_
  iterate 13
   rw [TRS_cons]
   refine ⟨by first|(simp (disch:=first|exact dqb|fail) only [go_sem,↓reduceIte,r9,p2,p3,p4,p5,p6,p7,p8,ga,b8,gb,ld1,ex1,st1,← eHa,ga1,b8a,gt1,st2,← eH1',ldsQ_cons,ldsQ_nil,grdQ_cons,grdQ_nil,if_true,Nat.reduceLeDiff];done)|exact trivial,?_⟩
   simp (disch:=first|exact dqb|fail) only [go_sem,↓reduceIte,r9,p2,p3,p4,p5,p6,p7,p8,ga,b8,gb,ld1,ex1,st1,← eHa,ga1,b8a,gt1,st2,← eH1']
  rw [TRS_nil]
  refine ⟨by first|(simp (disch:=first|exact dqb|fail) only [go_sem,↓reduceIte,r9,p2,p3,p4,p5,p6,p7,p8,ga,b8,gb,ld1,ex1,st1,← eHa,ga1,b8a,gt1,st2,← eH1',ldsQ_cons,ldsQ_nil,grdQ_cons,grdQ_nil,if_true,Nat.reduceLeDiff];done)|exact trivial,?_⟩
  subst hK
  have hsp:=@Nat.succ_ne_zero;repeat' (first|simp (disch:=first|exact dqb|fail) only [go_sem,↓reduceIte,hsp,r9,p2,p3,p4,p5,p6,p7,p8,b0',ga2,e3]|refine WP_drw ?_|refine cnd_intro (fun hsp=>?_) fun hsp=>?_)
  refine WP_rangeX (by simp (disch:=first|exact dqb|fail) only [go_sem,↓reduceIte]) (N:=(cutL R x).length) (X:=XC R x) (pr:=prT) (fun j K=>H3'.length+1≤K.length∧FolB b h K id n bx r1 (bx+2) (bx+1)∧K[a]?=some (nB (x:Int))∧K[H1'.length]?=some (pB id)∧K[H1'.length+1]?=some (nB (x:Int))∧K[h.length+3]?=some (bstB (bsP b R x (stF b R x j).e (stF b R x j).c))∧K[r1]?=some (rowE encC 95 (nxP b R x (stF b R x j).nx) 0)∧K[bx+1]?=some (rowB (toP b R x ((stF b R x j).to:Int)) 0)) (fun _ _=>False)
   (cuts_yields (id:=id) (db:=H1'.length) (fb:=H1'.length+1) (by omega) hR hx (fun j K q=>⟨hDe K q.2.1.x,q.2.2.2.1,q.2.2.2.2.1⟩)) ?_ ?_ ?_ ?_ ?_ ?_ ?_ ?_
  ·rintro j d K ⟨c,_,rfl⟩;rfl
  ·rintro j K T ⟨i1,i2,i3,i4,i5,i6,i7,i8⟩
   exact ⟨by simp;omega,i2.ext (.app .refl),get_app i3,get_app i4,get_app i5,get_app i6,get_app i7,get_app i8⟩
  ·rintro j K B ⟨i1,i2,i3,i4,i5,i6,i7,i8⟩
   have q1:=lt_of_get ga2
   exact ⟨by simpa using i1,i2.set (by omega) (by omega) (by omega),by rw [List.getElem?_set_ne (by omega)];exact i3,by rw [List.getElem?_set_ne (by omega)];exact i4,by rw [List.getElem?_set_ne (by omega)];exact i5,by rw [List.getElem?_set_ne (by omega)];exact i6,by rw [List.getElem?_set_ne (by omega)];exact i7,by rw [List.getElem?_set_ne (by omega)];exact i8⟩
  ·intro e K B q;exact q
  ·exact ⟨by simp,hB1.ext (x3.trans (.app .refl)),get_app (x3.get ga2),get_app gdb,get_app gfb,get_app (x3.get (by rw [gb2,ee0,ec0];rfl)),get_app (x3.get gn2),get_app (x3.get gt2)⟩
  ·rintro j d K B1 B2 hj ⟨c,hc,rfl⟩ ⟨i1,i2,i3,i4,i5,i6,i7,i8⟩ hKl hBB
   have hcb:=(cutL_b hR hx (List.mem_of_getElem? hc)).1
   have hsu:=stF_succ (b:=b) hc
   have hsb:=stF_b (b:=b) (j:=j) hR hx
   obtain ⟨⟨cw,cf,cj⟩,ce,cp⟩:=c
   dsimp only at hcb
   obtain ⟨e,rfl⟩:=Int.eq_ofNat_of_zero_le (show 0≤ce by omega)
   unfold folF at hsu
   simp only [Int.toNat_natCast] at hsu
   obtain ⟨s,es⟩:∃ s,s=stF b R x j:=⟨_,rfl⟩
   rw [← es] at i6 i7 i8 hsu hsb
   have fb:=folD_bd (b:=b) (x:=e) hR
   obtain ⟨fe,efe⟩:∃ fe,fe=(folD b R e).e:=⟨_,rfl⟩
   obtain ⟨fc,efc⟩:∃ fc,fc=(folD b R e).c:=⟨_,rfl⟩
   rw [← efe,← efc] at fb hsu
   obtain ⟨K1,eK1⟩:∃ K1,K1=K.set H3'.length B2:=⟨_,rfl⟩
   have lK1:K1.length=K.length:=by rw [eK1,List.length_set]
   obtain ⟨K2,eK2⟩:∃ K2,K2=K1++[cutB ⟨cw,cf,cj⟩]++[wayB (e:Int) cp]:=⟨_,rfl⟩
   have lK2:K2.length=K.length+2:=by rw [eK2];simp [lK1]
   have y2:Ext K1 K2:=by rw [eK2];exact .app (.app .refl)
   obtain ⟨K3,eK3⟩:∃ K3,K3=K2++[⟨.cells [.int .i64 (fe+cp),.int .i64 (fc+1)] 147 false false,0⟩]:=⟨_,rfl⟩
   have lK3:K3.length=K.length+3:=by rw [eK3];simp [lK2]
   have y3:Ext K2 K3:=by rw [eK3];exact .app .refl
   have q1:=lt_of_get ga2
   have nk1:∀ {i:Nat} {z:ABlk},i ≠ H3'.length→K[i]?=some z→K1[i]?=some z:=fun hi hz=>by rw [eK1,List.getElem?_set_ne (fun q=>hi q.symm)];exact hz
   have j2:FolB b h K1 id n bx r1 (bx+2) (bx+1):=by rw [eK1];exact i2.set (by omega) (by omega) (by omega)
   have m3:=y2.get (nk1 (by omega) i3)
   have m6:=y2.get (nk1 (by omega) i6)
   have m1:=(j2.ext (y2.trans y3)).b1
   have k3:=y3.get m3
   have k6:=y3.get m6
   have k3':=k3
   have k7:=(y2.trans y3).get (nk1 (by omega) i7)
   have k8:=(y2.trans y3).get (nk1 (by omega) i8)
   have kc:K2[K.length]?=some (cutB ⟨cw,cf,cj⟩):=by rw [eK2];exact get_app (get_eq lK1.symm)
   have kw:K2[K.length+1]?=some (wayB (e:Int) cp):=by rw [eK2];exact get_eq (by simp [lK1])
   have kc3:=y3.get kc
   have kw3:=y3.get kw
   have kn:K3[K.length+2]?=some ⟨.cells [.int .i64 (fe+cp),.int .i64 (fc+1)] 147 false false,0⟩:=by rw [eK3];exact get_eq lK2.symm
   have ldA:∀ z,ldB (some (false,z)) (some (bstB (bsP b R x s.e s.c))) 0 (e * 2)=some (.int .i64 fe):=fun z=>by rw [ldB_ints (by rw [bsP_len];omega),bsP_e (by omega) (by omega),efe]
   have ldB':∀ z,ldB (some (false,z)) (some (bstB (bsP b R x s.e s.c))) 0 (e * 2+1)=some (.int .i64 fc):=fun z=>by rw [ldB_ints (by rw [bsP_len];omega),bsP_c (by omega) (by omega),efc]
   have ldX:ldB (some (true,2)) (some (bstB (bsP b R x s.e s.c))) 0 (x * 2)=some (.agg [.int .i64 s.e,.int .i64 s.c]):=by
    rw [ldC2 bsP_len (by omega),bsP_xe (by omega),bsP_xc (by omega)]
   have eth:=fun base=>run_than (base:=base) hbf (h:=K3) (b:=b) (e:=fe+cp) (c:=fc+1) (e':=s.e) (c':=s.c)
   have lc2:K.length+1+1=K2.length:=by omega
   have j7:=(j2.ext (y2.trans y3)).b7
   have j8:=(j2.ext (y2.trans y3)).b8
   unfold bstB at m6 k6 ldA ldB' ldX
   unfold nB at m3 k3
   unfold cutB wayB at eK2
   unfold wayB at kw kw3
   unfold cutB at kc kc3
   rcases Bool.eq_false_or_eq_true (thB b (fe+cp,fc+1) (s.e,s.c)) with q|q
   ·rw [q] at eth
    rw [if_pos q] at hsu
    obtain ⟨K4,eK4⟩:∃ K4,K4=K3.set (h.length+3) (bstB (bsP b R x (fe+cp) (fc+1))):=⟨_,rfl⟩
    have lK4:K4.length=K3.length:=by rw [eK4,List.length_set]
    obtain ⟨K5,eK5⟩:∃ K5,K5=K4.set r1 (rowE encC 95 (nxP b R x ⟨cw,cf,cj⟩) 0):=⟨_,rfl⟩
    have lK5:K5.length=K3.length:=by rw [eK5,List.length_set,lK4]
    obtain ⟨K6,eK6⟩:∃ K6,K6=K5.set (bx+1) (rowB (toP b R x (e:Int)) 0):=⟨_,rfl⟩
    have lK6:K6.length=K3.length:=by rw [eK6,List.length_set,lK5]
    have nk6:∀ {i:Nat} {z:ABlk},i ≠ h.length+3→i ≠ r1→i ≠ bx+1→K3[i]?=some z→K6[i]?=some z:=fun h1 h2 h3 hz=>by
     rw [eK6,List.getElem?_set_ne (fun q=>h3 q.symm),eK5,List.getElem?_set_ne (fun q=>h2 q.symm),eK4,List.getElem?_set_ne (fun q=>h1 q.symm)];exact hz
    have k47:K4[r1]?=some (rowE encC 95 (nxP b R x s.nx) 0):=by rw [eK4,List.getElem?_set_ne (by omega)];exact k7
    have k58:K5[bx+1]?=some (rowB (toP b R x (s.to:Int)) 0):=by rw [eK5,List.getElem?_set_ne (by omega),eK4,List.getElem?_set_ne (by omega)];exact k8
    have sts:Small (toP b R x (s.to:Int)):=by
     refine ⟨by rw [toP_len];omega,fun y hy=>?_⟩
     unfold toP lst at hy
     obtain ⟨i,hi,rfl⟩:=List.mem_map.1 hy
     have hi:=List.mem_range.1 hi
     have:=folD_to (b:=b) hR hi
     split
     ·omega
     ·split<;>omega
    have iT5:=ints_rowB k58 sts (toP_len.trans en.symm).symm
    have stA:∀ (F:ABlk→Heap),stQ base (h.length+3) (some (bstB (bsP b R x s.e s.c))) 0 (x * 2) [.int .i64 (fe+cp),.int .i64 (fc+1)] F=some (F (bstB (bsP b R x (fe+cp) (fc+1)))):=fun F=>by rw [stC2 bsP_len (by omega),bsP_set (by omega)]
    have stB':∀ (F:ABlk→Heap),stQ base r1 (some (rowE encC 95 (nxP b R x s.nx) 0)) 0 (x * 3) [.int .i64 cw,.int .i64 cf,.bool cj] F=some (F (rowE encC 95 (nxP b R x ⟨cw,cf,cj⟩) 0)):=fun F=>by
     have:=stQ_rowE (E:=encC) (e:=95) (l:=nxP b R x s.nx) (i:=x) (base:=base) (id:=r1) (ver:=0) (x:=⟨cw,cf,cj⟩) (K:=F) (by rw [nxP_len];exact hx) (encC_sc _) (by omega)
     rw [nxP_set hx] at this;exact this
    have stC':∀ (F:ABlk→Heap),stQ base (bx+1) (some (rowB (toP b R x (s.to:Int)) 0)) 0 x [.int .i64 (e:Int)] F=some (F (rowB (toP b R x (e:Int)) 0)):=fun F=>by rw [stQ_row (by rw [toP_len];exact hx),toP_set hx]
    have hw1:r1<K3.length:=by omega
    have hw2:bx+1<K3.length:=by omega
    have hlowC:refsLow K3.length (.agg [.int .i64 cw,.int .i64 cf,.bool cj]):=by simp [refsLow,AVal.refs,refsL]
    have j74:K4[bx]?=some (cslB (.slice (some ⟨r1,0,0⟩) n n)):=by rw [eK4,List.getElem?_set_ne (by omega)];exact j7
    have j85:K5[bx+2]?=some (islB (.slice (some ⟨bx+1,0,0⟩) n n)):=by rw [eK5,List.getElem?_set_ne (by omega),eK4,List.getElem?_set_ne (by omega)];exact j8
    have j84:K4[bx+2]?=some (islB (.slice (some ⟨bx+1,0,0⟩) n n)):=by rw [eK4,List.getElem?_set_ne (by omega)];exact j8
    have k34:K4[a]?=some (nB (x:Int)):=by rw [eK4,List.getElem?_set_ne (by omega)];exact k3
    have k35:K5[a]?=some (nB (x:Int)):=by rw [eK5,List.getElem?_set_ne (by omega)];exact k34
    have kc4:K4[K.length]?=some (cutB ⟨cw,cf,cj⟩):=by rw [eK4,List.getElem?_set_ne (by omega)];exact kc3
    have kw4:K4[K.length+1]?=some (wayB (e:Int) cp):=by rw [eK4,List.getElem?_set_ne (by omega)];exact kw3
    have kw5:K5[K.length+1]?=some (wayB (e:Int) cp):=by rw [eK5,List.getElem?_set_ne (by omega)];exact kw4
    unfold bstB at stA eK4
    unfold cslB at j7 j74
    unfold islB at j8 j84 j85
    unfold nB at k34 k35
    unfold cutB at kc4
    unfold wayB at kw4 kw5
    have hsp:=@Nat.succ_ne_zero;repeat' (first|simp (disch:=first|exact dqb|fail) only [go_sem,↓reduceIte,hsp,r9,p2,p3,p4,p5,p6,p7,p8,hBB,← eK1,← eK2,lK1,lK2,kw,m6,ldA,ldB',← eK3,m1,kn,k3,k6,ldX,eth]|refine WP_drw ?_|refine cnd_intro (fun hsp=>?_) fun hsp=>?_)
    refine WPS_go ?_
    refine WP_loose [⟨1,41,7,⟨bx,0,0⟩,.slice (some ⟨r1,0,0⟩) n n,12⟩,⟨2,3,9,⟨a,0,0⟩,.int .i64 (x:Int),12⟩,⟨3,35,8,⟨bx+2,0,0⟩,.slice (some ⟨bx+1,0,0⟩) n n,14⟩,⟨4,3,9,⟨a,0,0⟩,.int .i64 (x:Int),14⟩,⟨6,95,10,⟨K.length,0,0⟩,.agg [.int .i64 cw,.int .i64 cf,.bool cj],12⟩,⟨8,3,85,⟨K.length+1,0,0⟩,.int .i64 (e:Int),14⟩] (by kernel_rfl) (by kernel_rfl) ⟨refsLow_slice hw1,refsLow_int,refsLow_slice hw2,refsLow_int,hlowC,refsLow_int,trivial⟩ fun KK hK=>?_
    iterate 15
     rw [TRS_cons]
     refine ⟨by first|(simp (disch:=first|exact dqb|fail) only [go_sem,↓reduceIte,r9,p2,p3,p4,p5,p6,p7,p8,k3,j7,j8,kn,kc3,kw3,k6,stA,← eK4,k34,j74,j84,kc4,kw4,k47,stB',← eK5,k35,j85,kw5,k58,stC',← eK6,lK1,lK2,lK3,ldsQ_cons,ldsQ_nil,grdQ_cons,grdQ_nil,if_true,Nat.reduceLeDiff];done)|exact trivial,?_⟩
     simp (disch:=first|exact dqb|fail) only [go_sem,↓reduceIte,r9,p2,p3,p4,p5,p6,p7,p8,k3,j7,j8,kn,kc3,kw3,k6,stA,← eK4,k34,j74,j84,kc4,kw4,k47,stB',← eK5,k35,j85,kw5,k58,stC',← eK6,lK1,lK2,lK3]
    rw [TRS_nil]
    refine ⟨by first|(simp (disch:=first|exact dqb|fail) only [go_sem,↓reduceIte,r9,p2,p3,p4,p5,p6,p7,p8,k3,j7,j8,kn,kc3,kw3,k6,stA,← eK4,k34,j74,j84,kc4,kw4,k47,stB',← eK5,k35,j85,kw5,k58,stC',← eK6,lK1,lK2,lK3,ldsQ_cons,ldsQ_nil,grdQ_cons,grdQ_nil,if_true,Nat.reduceLeDiff];done)|exact trivial,?_⟩
    subst hK
    have hsp:=@Nat.succ_ne_zero;repeat' (first|simp (disch:=first|exact dqb|fail) only [go_sem,↓reduceIte,hsp]|refine WP_drw ?_|refine cnd_intro (fun hsp=>?_) fun hsp=>?_)
    have yy:=y2.trans y3
    refine ⟨nk6 (by omega) (by omega) (by omega) (yy.get (by rw [eK1,List.getElem?_set_self (by omega)])),fun i z hi hp hz=>nk6 (by omega) (by omega) (by omega) (yy.get (nk1 (by omega) hz)),by omega,.inl ⟨by omega,?_,nk6 (by omega) (by omega) (by omega) k3',nk6 (by omega) (by omega) (by omega) (yy.get (nk1 (by omega) i4)),nk6 (by omega) (by omega) (by omega) (yy.get (nk1 (by omega) i5)),?_,?_,?_⟩⟩
    ·rw [eK6,eK5,eK4]
     exact (((j2.ext yy).set (by omega) (by omega) (by omega)).set (by omega) (by omega) (by omega)).set (by omega) (by omega) (by omega)
    ·rw [hsu,eK6,List.getElem?_set_ne (by omega),eK5,List.getElem?_set_ne (by omega),eK4,List.getElem?_set_self (by omega)]
    ·rw [hsu,eK6,List.getElem?_set_ne (by omega),eK5,List.getElem?_set_self (by omega)]
    ·rw [hsu,eK6,List.getElem?_set_self (by omega)]
   ·rw [q] at eth
    rw [if_neg (by rw [q];simp)] at hsu
    have hsp:=@Nat.succ_ne_zero;repeat' (first|simp (disch:=first|exact dqb|fail) only [go_sem,↓reduceIte,hsp,r9,p2,p3,p4,p5,p6,p7,p8,hBB,← eK1,← eK2,lK1,lK2,kw,m6,ldA,ldB',← eK3,m1,kn,k3,k6,ldX,eth]|refine WP_drw ?_|refine cnd_intro (fun hsp=>?_) fun hsp=>?_)
    exact ⟨(y2.trans y3).get (by rw [eK1,List.getElem?_set_self (by omega)]),fun i z hi hp hz=>(y2.trans y3).get (nk1 (by omega) hz),by omega,.inl ⟨by omega,j2.ext (y2.trans y3),(y2.trans y3).get (nk1 (by omega) i4),(y2.trans y3).get (nk1 (by omega) i5),by rw [hsu],by rw [hsu];exact k7,by rw [hsu];exact k8⟩⟩
  ·rintro K ⟨i1,i2,i3,i4,i5,i6,i7,i8⟩
   rw [stF_all hR hx] at i6 i7 i8
   rw [bsP_all] at i6
   rw [nxP_all] at i7
   rw [toP_all] at i8
   unfold nB at i3
   have hsp:=@Nat.succ_ne_zero;repeat' (first|simp (disch:=first|exact dqb|fail) only [go_sem,↓reduceIte,hsp,r9,p2,p3,p4,p5,p6,p7,p8,i3]|refine WP_drw ?_|refine cnd_intro (fun hsp=>?_) fun hsp=>?_)
   refine ⟨agq,_,rfl,by rw [get_eq rfl,show (n:Int)-1-((i+1:Nat):Int)=(x:Int)-1 by omega],by omega,i2.ext (.app .refl),by rw [← ex];exact i6,by rw [← ex];exact i7,by rw [← ex];exact i8⟩
  ·intro e K _ q;exact q.elim
 ·rintro fr H hA ⟨a,r9,ga,la,hB,gb,gn,gt⟩
  have p2:=hA 2 rfl
  have p3:=hA 3 rfl
  have p4:=hA 4 rfl
  have p5:=hA 5 rfl
  have p6:=hA 6 rfl
  have p7:=hA 7 rfl
  have p8:=hA 8 rfl
  try simp (disch:=first|exact dqb|fail) only [go_sem,↓reduceIte] at p2 p3 p4 p5 p6 p7 p8
  have hge:(((n:Int)-1-(n:Int)) ≥ 0)=False:=eq_false (by omega)
  rw [Nat.sub_self] at gb gn gt
  have lK:=lt_of_get ga
  have hC:FolC b R H id h.length bx (h.length+2) (bx+2) r1 (bx+1):=⟨hDe H hB.x,hB.b0,by rw [← en];exact hB.b7,gn,hB.b2,by rw [← en];exact hB.b8,gt⟩
  obtain ⟨K1,eK1⟩:∃ K1,K1=H++[cslB (.slice none 0 0)]++[onB (onV h.length bx (h.length+2) H.length (H.length+1) (bx+2))]:=⟨_,rfl⟩
  have x1':Ext H K1:=by rw [eK1];exact .app (.app .refl)
  have ko:K1[H.length]?=some (cslB (.slice none 0 0)):=by rw [eK1];exact get_app (get_eq rfl)
  have kf:K1[H.length+1]?=some (onB (onV h.length bx (h.length+2) H.length (H.length+1) (bx+2))):=by rw [eK1];exact get_eq (by simp)
  have lK1:K1.length=H.length+2:=by rw [eK1];simp
  have hle:=hB.x.len
  obtain ⟨w2,H9,e9,rfl,x9,l9,ov,go9,gf9,hO9⟩:=run_on (base:=base) (ou:=H.length) hR hC (by omega) rfl n 0 K1 (.slice none 0 0) [] (by omega) (by omega) x1' ko kf Own.nil (by simp;omega)
  have kf':=kf
  have go':=go9
  unfold nB at ga
  unfold onB onV at kf'
  unfold onV at e9
  rw [Int.natCast_zero] at e9
  rw [List.nil_append] at hO9
  unfold cslB onB onV at eK1
  unfold cslB at go'
  have hsp:=@Nat.succ_ne_zero;repeat' (first|simp (disch:=first|exact dqb|fail) only [go_sem,↓reduceIte,hsp,r9,p2,p3,p4,p5,p6,p7,p8,ga,hge,← eK1,kf',e9,go']|refine WP_drw ?_|refine cnd_intro (fun hsp=>?_) fun hsp=>?_)
  exact ⟨hB.x.trans x9,by rw [← en];exact hO9.low (by omega)⟩
end Go.AM
namespace Go.AM
open Go.Proofs.Tryz
def Off (X:List Nat) (v:AVal):Prop:=∀ r n c,v=.slice (some r) n c→r.id ∉ X
theorem Own.setOff {α:Type} {E:Enc α} {e:TypeId} {b i:Nat} {h:Heap} {v:AVal} {l:List α} {X:List Nat} {k:ABlk} (x:Own E e b h v l) (hX:Off X v) (hi:i ∈ X):Own E e b (h.set i k) v l:=by
 rcases x with ⟨rfl,rfl⟩|⟨id,ver,rfl,h1,h2,h3⟩
 ·exact .nil
 ·have hne:i ≠ id:=fun e=>hX _ _ _ rfl (e ▸ hi)
  exact .inr ⟨id,ver,rfl,by rw [List.getElem?_set_ne hne];exact h1,h2,h3⟩
theorem Own.off {α:Type} {E:Enc α} {e:TypeId} {b:Nat} {h:Heap} {v:AVal} {l:List α} {X:List Nat} (x:Own E e b h v l) (hX:∀ i ∈ X,i<b):Off X v:=by
 intro r n c q hm
 rcases x with ⟨rfl,_⟩|⟨id,ver,rfl,_,h2,_⟩
 ·cases q
 ·cases q
  have:id<b:=hX _ hm
  omega
def KeepX (ob:Nat) (H H':Heap):Prop:=H.length≤H'.length∧∀ i b,i ≠ ob→H[i]?=some b→H'[i]?=some b
section
variable {ob:Nat} {H H' H2 h:Heap}
theorem KeepX.refl:KeepX ob H H:=⟨Nat.le_refl _,fun _ _ _ h=>h⟩
theorem KeepX.trans (a:KeepX ob H H') (b:KeepX ob H' H2):KeepX ob H H2:=⟨Nat.le_trans a.1 b.1,fun i k hi h=>b.2 i k hi (a.2 i k hi h)⟩
theorem KeepX.ofExt (e:Ext H H'):KeepX ob H H':=⟨e.len,fun _ _ _ h=>e.get h⟩
theorem KeepX.set {k:ABlk} (a:KeepX ob H H'):KeepX ob H (H'.set ob k):=⟨by rw [List.length_set];exact a.1,fun i b hi h=>by rw [List.getElem?_set_ne (fun e=>hi e.symm)];exact a.2 i b hi h⟩
theorem KeepX.own {α:Type} {E:Enc α} {e:TypeId} {b:Nat} {v:AVal} {l:List α} (a:KeepX ob H H') (x:Own E e b H v l) (hv:Off [ob] v):Own E e b H' v l:=by
 rcases x with ⟨rfl,rfl⟩|⟨id,ver,rfl,h1,h2,h3⟩
 ·exact .nil
 ·exact .inr ⟨id,ver,rfl,a.2 id _ (fun e=>hv _ _ _ rfl (by rw [e];simp)) h1,h2,h3⟩
theorem KeepX.ints {v:AVal} {l:List Int} (a:KeepX ob H H') (x:Ints H v l) (hv:Off [ob] v):Ints H' v l:=by
 refine ⟨x.1,x.2.imp id (.imp id ?_)⟩
 rintro ⟨r,k,c,e,row,ro,rfl,h2,h3⟩
 exact ⟨r,k,c,e,row,ro,rfl,a.2 r.id _ (fun e=>hv _ _ _ rfl (by rw [e];simp)) h2,h3⟩
theorem KeepX.ext (a:KeepX ob H H') (e:Ext h H) (hb:h.length≤ob):Ext h H':=by
 refine ⟨H'.drop h.length,?_⟩
 have hl:=e.len
 have:H'.take h.length=h:=by
  refine List.ext_getElem? fun i=>?_
  rw [List.getElem?_take]
  split
  ·rename_i hi
   have h1:h[i]?=some h[i]:=List.getElem?_eq_getElem hi
   rw [h1]
   exact a.2 i _ (by omega) (e.get h1)
  ·rename_i hi
   rw [List.getElem?_eq_none (by omega)]
 have h2:=List.take_append_drop h.length H'
 rw [this] at h2
 exact h2.symm
end
theorem run_cloneI {base:Nat} {h:Heap} {v:AVal} {l:List Int} (hO:Own encI 3 0 h v l) (hs:Small l):∃ v' H,callL prog raw base (.fn 137 [] []) [v] h=some (v',H)∧Ext h H∧Own encI 3 h.length H v' l:=by
 have hI:=(hO.rows (by have:=hs.1;omega)).ints hs.2
 have hc:=run_clone (base:=base) hI hs
 rcases hO with ⟨rfl,rfl⟩|⟨id,ver,rfl,h1,h2,h3⟩
 ·refine ⟨_,_,hc,?_,?_⟩
  ·simp only [cloneH];exact .app .refl
  ·simp only [cloneV,nilB,if_true];exact Own.nil
 ·have hne:l ≠ []:=fun e=>by rw [e] at h3;simp at h3
  have e1:nilB (.slice (some ⟨id,ver,0⟩) l.length l.length)=false:=rfl
  rw [cloneV,cloneH,if_neg (by simp [e1]),if_neg (by simp [e1]),newV_ne hne,newH_ne hne] at hc
  refine ⟨_,_,hc,.app .refl,.inr ⟨h.length,0,rfl,?_,Nat.le_refl _,h3⟩⟩
  rw [get_eq rfl,rowB,rowE,flat_encI]
end Go.AM
namespace Go.AM
open Go.Proofs.Tryz
attribute [-go_sem] put_ne put_same
attribute [local go_sem ↓] put_if
section
variable {R:Rib} {x j:Nat}
def bfJ (R:Rib) (x j:Nat):List Int:=((cutL R x).take j).foldl (fun K' c=>rlxL K' c.2.1.toNat ((bfN R x).getD x 0+c.2.2)) (rlxL (bfN R x) (x+1) ((bfN R x).getD x 0))
def usJ (R:Rib) (x j:Nat):List Int:=((cutL R x).take j).foldl (usF R ((bfN R x).getD x 0)) (usN R x)
end
end Go.AM
namespace Go.AM
open Go.Proofs.Tryz
attribute [-go_sem] put_ne put_same
attribute [local go_sem ↓] put_if
def takE (R:Rib) (c:Ct):Int × Int × Int:=if chkR R ≠ 0 then (0,0,chkR R) else if ¬ ((0≤c.w∧c.w≤(R.W.length:Int)-1)∧(0≤c.f∧c.f≤R.L-1)) then (0,0,1) else match takC R c with
 | none=>(0,0,6)
 | some e=>(e.1,e.2,0)
def madE (R:Rib):List Int:=if chkR R ≠ 0 then [] else lst (fun y=>valD R y) (R.L.toNat+1)
end Go.AM
namespace Go.AM
open Go.Proofs.Tryz
attribute [-go_sem] put_ne put_same
attribute [local go_sem ↓] put_if
def bstE (b:Bool) (R:Rib):List Ct:=if chkR R ≠ 0 then [] else pthL b R R.L.toNat 0
def allE (R:Rib):Int:=if chkR R ≠ 0 then 0 else valD R 0
def usdE (R:Rib):List Int:=if chkR R ≠ 0 then [] else usdL R
set_option maxRecDepth 100000 in
set_option maxHeartbeats 4000000 in
theorem run_Best {base:Nat} {h:Heap} {v:AVal} {R:Rib} (hb:base≤h.length) (hA:RibAt h v R) (hsm:R.F.length≤1048576) :
  Ret prog raw base (.fn 12 [] []) [v] h (fun w H=>Ext h H∧∃ u,w=.tuple [u,.int .i64 (allE R),.int .i64 (chkR R)]∧Own encC 95 h.length H u (bstE false R)):=by
 have hAe:=fun H (e:Ext h H)=>hA.ext e
 obtain ⟨fv,wv,rfl,hF,hW⟩:=hA
 have o1:=hF.one
 have o2:=hW.one
 obtain ⟨G0,eG0⟩:∃ G0,G0=h++[ribB R.L fv wv]:=⟨_,rfl⟩
 have x0:Ext h G0:=by rw [eG0];exact .app .refl
 have g0:G0[h.length]?=some (ribB R.L fv wv):=by rw [eG0];exact get_eq rfl
 have l0:G0.length=h.length+1:=by rw [eG0];simp
 obtain ⟨w1,H1,e1,x1,r1,r2⟩:=run_opened (base:=base) (h:=G0) (by omega) (hAe G0 x0) hsm
 have l1:=x1.len
 have xx:=x0.trans x1
 have p0:=x1.get g0
 unfold ribB at eG0 g0 p0
 by_cases c0:chkR R=0
 ·obtain ⟨id,rfl,hid,hD⟩:=r2 c0
  have hR:=chkR_iff.1 c0
  have hL:=hR.L
  obtain ⟨u,H2,e2,x2,oU⟩:=run_follow (base:=base) (b:=false) rfl (by omega) hD hR
  have hm:=fun base=>run_made (base:=base) (hD.ext x2) hR
  have ix:indexA prog 152 (.agg (ints (mdS R 0))) (.int .i64 0)=some (.int .i64 (valD R 0)):=by
   simp only [indexA,Fc.ar152]
   rw [if_pos (by omega)]
   simp only [partQ,Bool.false_eq_true,if_false]
   show (ints (mdS R 0))[0]?=_
   rw [ints_get (by rw [mdS_len];omega),mdS_at (by omega) (Nat.zero_le _)]
  have re:bstE false R=pthL false R R.L.toNat 0:=by unfold bstE;rw [if_neg (by simp [c0])]
  have re2:allE R=valD R 0:=by unfold allE;rw [if_neg (by simp [c0])]
  rw [re,re2,c0]
  have ou:=oU.one
  have ethv:thV false=.fn 49 [] []:=rfl
  rw [ethv] at e2
  refine ret_raw func12 rfl (by kernel_rfl) ?_
  have hsp:=@Nat.succ_ne_zero;repeat' (first|simp (disch:=first|exact dqb|fail) only [go_sem,↓reduceIte,hsp,← eG0,g0,e1,eq_self,e2,hm,ix]|refine WP_drw ?_|refine cnd_intro (fun hsp=>?_) fun hsp=>?_)
  exact ⟨xx.trans x2,u,rfl,oU.low (by omega)⟩
 ·have t0:(chkR R=0)=False:=eq_false c0
  have r:=r1 c0
  subst r
  have re:bstE false R=[]:=by unfold bstE;rw [if_pos c0]
  have re2:allE R=0:=by unfold allE;rw [if_pos c0]
  rw [re,re2]
  refine ret_raw func12 rfl (by kernel_rfl) ?_
  have hsp:=@Nat.succ_ne_zero;repeat' (first|simp (disch:=first|exact dqb|fail) only [go_sem,↓reduceIte,hsp,← eG0,g0,e1,t0]|refine WP_drw ?_|refine cnd_intro (fun hsp=>?_) fun hsp=>?_)
  exact ⟨xx,_,rfl,Own.nil⟩
end Go.AM
namespace Go.AM
open Go.Proofs.Tryz
attribute [-go_sem] put_ne put_same
attribute [local go_sem ↓] put_if
def plnE (R:Rib) (p:List Ct):Int × Int:=if chkR R ≠ 0 then (0,chkR R) else plnL R p 0 0
theorem ct_ad {h:Heap} {pv:AVal} {P:List Ct} {i:Nat} (hR:Rows encC h pv P) (hi:i<P.length):indexAddrA prog 41 pv (.int .i64 (i:Int))=some (elAdr pv encC.z i 0):=by
 have:=hR.addr (P:=prog) (i:=(i:Int)) Fc.el41 Fc.ar41 (by omega) (by omega)
 rwa [Int.toNat_natCast] at this
theorem ct_ld {h:Heap} {pv:AVal} {P:List Ct} {i:Nat} {c:Ct} (hR:Rows encC h pv P) (hx:P[i]?=some c):loadP prog h 95 (elAdr pv encC.z i 0)=some (.agg [.int .i64 c.w,.int .i64 c.f,.bool c.j]):=hR.load (P:=prog) Fc.ty95 hx
set_option maxRecDepth 100000 in
set_option maxHeartbeats 4000000 in
theorem run_planned {base:Nat} {h:Heap} {v pv:AVal} {R:Rib} {p:List Ct} (hb:base≤h.length) (hA:RibAt h v R) (hsm:R.F.length≤1048576) (hP:Rows encC h pv p) :
  Ret prog raw base (.fn 64 [] []) [v,pv] h (fun w H=>Ext h H∧∃ a,w=.tuple [a,.int .i64 (plnE R p).1,.int .i64 (plnE R p).2]∧One a∧((plnE R p).2=0→∃ id,a=.ptr (some ⟨id,0,0⟩)∧h.length≤id∧DskAt H id R)):=by
 have hAe:=fun H (e:Ext h H)=>hA.ext e
 obtain ⟨fv,wv,rfl,hF,hW⟩:=hA
 have o1:=hF.one
 have o2:=hW.one
 have op:=hP.one
 obtain ⟨G0,eG0⟩:∃ G0,G0=h++[ribB R.L fv wv]:=⟨_,rfl⟩
 have x0:Ext h G0:=by rw [eG0];exact .app .refl
 have g0:G0[h.length]?=some (ribB R.L fv wv):=by rw [eG0];exact get_eq rfl
 have l0:G0.length=h.length+1:=by rw [eG0];simp
 obtain ⟨w1,H1,e1,x1,r1,r2⟩:=run_opened (base:=base) (h:=G0) (by omega) (hAe G0 x0) hsm
 have l1:=x1.len
 have xx:=x0.trans x1
 have p0:=x1.get g0
 unfold ribB at eG0 g0 p0
 by_cases c0:chkR R=0
 ·obtain ⟨id,rfl,hid,hD⟩:=r2 c0
  have hR:=chkR_iff.1 c0
  have hL:=hR.L
  have hnW:=hR.nW
  have hpl:=hP.1
  have hn:=(hP.ext xx).len (P:=prog) Fc.el41
  have re:plnE R p=plnL R p 0 0:=by unfold plnE;rw [if_neg (by simp [c0])]
  obtain ⟨Z,eZ⟩:∃ Z,Z=plnL R p 0 0:=⟨_,rfl⟩
  rw [re,← eZ]
  refine ret_raw func64 rfl (by kernel_rfl) ?_
  have hsp:=@Nat.succ_ne_zero;repeat' (first|simp (disch:=first|exact dqb|fail) only [go_sem,↓reduceIte,hsp,← eG0,g0,e1,eq_self,hn]|refine WP_drw ?_|refine cnd_intro (fun hsp=>?_) fun hsp=>?_)
  refine WP_count [(4,6),(9,14),(25,61)] 0 p.length (Nat.zero_le _) (fun _ i fr H=>fr 25=.int .i64 (i:Int)∧∃ a s:Int,fr 9=.int .i64 a∧fr 10=.int .i64 s∧Ext H1 H∧plnL R (p.drop i) a s=Z∧(0≤a∧a≤R.L)∧(0≤s∧s≤100 * a)) ?_ ?_ ?_
  ·exact ⟨by (simp (disch:=first|exact dqb|fail) only [go_sem,↓reduceIte,Int.natCast_zero];first|done|rfl),0,0,by simp (disch:=first|exact dqb|fail) only [go_sem,↓reduceIte],by simp (disch:=first|exact dqb|fail) only [go_sem,↓reduceIte],.refl,by rw [List.drop_zero,eZ],by omega,by omega⟩
  ·rintro i fr H hi0 hi hA ⟨r25,a,s,r9,r10,xH,hpn,ha,hs⟩
   have q2:=hA 2 rfl
   have q7:=hA 7 rfl
   have q23:=hA 23 rfl
   have q24:=hA 24 rfl
   try simp (disch:=first|exact dqb|fail) only [go_sem,↓reduceIte] at q2 q7 q23 q24
   have hlt:((i:Int)<(p.length:Int))=True:=eq_true (by omega)
   obtain ⟨c,ec⟩:∃ c,c=p[i]:=⟨_,rfl⟩
   have hx:p[i]?=some c:=by rw [ec];exact List.getElem?_eq_getElem hi
   rw [List.drop_eq_getElem_cons hi,← ec] at hpn
   have xh:=xx.trans xH
   have iP:=hP.ext xh
   have a1:=ct_ad iP hi
   have b1:=ct_ld iP hx
   have g0H:=xH.get p0
   obtain ⟨H2,eH2⟩:∃ H2,H2=H++[cutB c]:=⟨_,rfl⟩
   have x2:Ext H H2:=by rw [eH2];exact .app .refl
   have gc:H2[H.length]?=some (cutB c):=by rw [eH2];exact get_eq rfl
   have g02:=x2.get g0H
   have l2:H2.length=H.length+1:=by rw [eH2];simp
   have lH:=xH.len
   have hw:=fun base=>run_want (base:=base) (L:=R.L) (x:=c.w) (hW.ext (xh.trans x2)) o1
   have hu:=fun base=>run_unit (base:=base) (h:=H2) (x:=c.f) (show -100000≤R.L∧R.L≤100000 by omega) o1 o2
   unfold plnL at hpn
   unfold cutB at eH2 gc
   by_cases c1:0≤c.w∧c.w≤(R.W.length:Int)-1
   ·rw [decide_eq_true c1] at hw
    by_cases c2:0≤c.f∧c.f≤R.L-1
    ·rw [decide_eq_true c2] at hu
     rw [if_neg (fun z=>z ⟨c1,c2⟩)] at hpn
     obtain ⟨k,ek⟩:=Int.eq_ofNat_of_zero_le c1.1
     obtain ⟨x,ex⟩:=Int.eq_ofNat_of_zero_le c2.1
     have hwk:R.W[k]?=some (R.W[k]'(by omega)):=List.getElem?_eq_getElem (by omega)
     generalize R.W[k]'(by omega)=w at hwk
     have ht:=fun base=>run_take (base:=base) (j:=c.j) (hD.ext (xH.trans x2)) hR hwk (show x<R.L.toNat by omega)
     have etc:takC R c=takL R w x c.j:=by unfold takC;rw [ek,Int.toNat_natCast,hwk];simp only;rw [ex,Int.toNat_natCast]
     rw [← ek,← ex] at ht
     cases hto:takC R c with
     | none =>
      rw [hto] at hpn
      simp only at hpn
      rw [← etc,hto] at ht
      unfold takV at ht
      rw [← hpn]
      have hsp:=@Nat.succ_ne_zero;repeat' (first|simp (disch:=first|exact dqb|fail) only [go_sem,↓reduceIte,hsp,r25,r9,r10,q2,q7,q23,q24,hlt,a1,b1,← eH2,gc,g02,hw,hu,ht]|refine WP_drw ?_|refine cnd_intro (fun hsp=>?_) fun hsp=>?_)
      exact ⟨(xh.trans x2).app,_,rfl,One.lit ⟨rfl,rfl,rfl⟩,by simp⟩
     | some e =>
      rw [hto] at hpn
      simp only at hpn
      rw [← etc,hto] at ht
      have htb:=takL_b hR (hR.W w (List.mem_of_getElem? hwk)) (show x<R.L.toNat by omega) (etc.symm.trans hto)
      obtain ⟨e,pr⟩:=e
      simp only at hpn htb
      unfold takV at ht
      simp only at ht
      by_cases c3:c.f<a
      ·have t3:(c.f<a)=True:=eq_true c3
       rw [if_pos c3] at hpn
       rw [← hpn]
       have hsp:=@Nat.succ_ne_zero;repeat' (first|simp (disch:=first|exact dqb|fail) only [go_sem,↓reduceIte,hsp,r25,r9,r10,q2,q7,q23,q24,hlt,a1,b1,← eH2,gc,g02,hw,hu,ht,t3]|refine WP_drw ?_|refine cnd_intro (fun hsp=>?_) fun hsp=>?_)
       exact ⟨(xh.trans x2).app,_,rfl,One.lit ⟨rfl,rfl,rfl⟩,by simp⟩
      ·have t3:(c.f<a)=False:=eq_false c3
       rw [if_neg c3] at hpn
       have hsp:=@Nat.succ_ne_zero;repeat' (first|simp (disch:=first|exact dqb|fail) only [go_sem,↓reduceIte,hsp,r25,r9,r10,q2,q7,q23,q24,hlt,a1,b1,← eH2,gc,g02,hw,hu,ht,t3]|refine WP_drw ?_|refine cnd_intro (fun hsp=>?_) fun hsp=>?_)
       exact ⟨agq,by omega,e,s+pr,rfl,rfl,(xH.trans x2).app,hpn,by omega,by omega⟩
    ·rw [decide_eq_false c2] at hu
     rw [if_pos (fun z=>c2 z.2)] at hpn
     rw [← hpn]
     have hsp:=@Nat.succ_ne_zero;repeat' (first|simp (disch:=first|exact dqb|fail) only [go_sem,↓reduceIte,hsp,r25,r9,r10,q2,q7,q23,q24,hlt,a1,b1,← eH2,gc,g02,hw,hu]|refine WP_drw ?_|refine cnd_intro (fun hsp=>?_) fun hsp=>?_)
     exact ⟨xh.trans x2,_,rfl,One.lit ⟨rfl,rfl,rfl⟩,by simp⟩
   ·rw [decide_eq_false c1] at hw
    rw [if_pos (fun z=>c1 z.1)] at hpn
    rw [← hpn]
    have hsp:=@Nat.succ_ne_zero;repeat' (first|simp (disch:=first|exact dqb|fail) only [go_sem,↓reduceIte,hsp,r25,r9,r10,q2,q7,q23,q24,hlt,a1,b1,← eH2,gc,g02,hw]|refine WP_drw ?_|refine cnd_intro (fun hsp=>?_) fun hsp=>?_)
    exact ⟨xh.trans x2,_,rfl,One.lit ⟨rfl,rfl,rfl⟩,by simp⟩
  ·rintro fr H hA ⟨r25,a,s,r9,r10,xH,hpn,ha,hs⟩
   have q2:=hA 2 rfl
   have q7:=hA 7 rfl
   have q23:=hA 23 rfl
   have q24:=hA 24 rfl
   try simp (disch:=first|exact dqb|fail) only [go_sem,↓reduceIte] at q2 q7 q23 q24
   have hlt:((p.length:Int)<(p.length:Int))=False:=eq_false (by omega)
   rw [List.drop_length,plnL] at hpn
   rw [← hpn]
   have hsp:=@Nat.succ_ne_zero;repeat' (first|simp (disch:=first|exact dqb|fail) only [go_sem,↓reduceIte,hsp,r25,r9,r10,q2,q7,q23,q24,hlt]|refine WP_drw ?_|refine cnd_intro (fun hsp=>?_) fun hsp=>?_)
   exact ⟨xx.trans xH,_,rfl,One.lit ⟨rfl,rfl,rfl⟩,fun _=>⟨id,rfl,by omega,hD.ext xH⟩⟩
 ·have t0:(chkR R=0)=False:=eq_false c0
  have r:=r1 c0
  subst r
  have re:plnE R p=(0,chkR R):=by unfold plnE;rw [if_pos c0]
  rw [re]
  refine ret_raw func64 rfl (by kernel_rfl) ?_
  have hsp:=@Nat.succ_ne_zero;repeat' (first|simp (disch:=first|exact dqb|fail) only [go_sem,↓reduceIte,hsp,← eG0,g0,e1,t0]|refine WP_drw ?_|refine cnd_intro (fun hsp=>?_) fun hsp=>?_)
  exact ⟨xx,_,rfl,One.lit ⟨rfl,rfl,rfl⟩,fun q=>by first|exact q.elim|exact absurd q c0⟩
end Go.AM
