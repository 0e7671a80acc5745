/-
  Contracts: a plan that is best (follow).
-/
import Derived.Test.YtikgghhceolaeaaGreatU15
import Derived.Test.YtikgghhceolaeaaGreatU12
set_option linter.unusedSimpArgs false
set_option linter.unusedVariables false
namespace Go.AM
open Go.Proofs.Tryz
attribute [-go_sem] put_ne put_same
attribute [local go_sem ↓] put_if
def stF (b:Bool) (R:Rib) (x j:Nat):Fol:=((cutL R x).take j).foldl (folF b (folD b R)) ⟨(folD b R (x+1)).e,(folD b R (x+1)).c,noC,x+1⟩
theorem stF_succ {b:Bool} {R:Rib} {x j:Nat} {c:Ct × Int × Int} (h:(cutL R x)[j]?=some c):stF b R x (j+1)=folF b (folD b R) (stF b R x j) c:=by
 unfold stF
 rw [List.take_add_one,h,List.foldl_append];rfl
theorem stF_all {b:Bool} {R:Rib} {x:Nat} (hR:RibOk R) (hx:x<R.L.toNat):stF b R x (cutL R x).length=folD b R x:=by
 unfold stF
 rw [List.take_length,folD_step hR hx]
theorem stF_b {b:Bool} {R:Rib} {x j:Nat} (hR:RibOk R) (hx:x<R.L.toNat):(stF b R x j).to≤R.L.toNat:=by
 unfold stF
 refine foldl_inv (I:=fun s:Fol=>s.to≤R.L.toNat) (by simp only;omega) fun s c hc h=>?_
 have hb:=(cutL_b hR hx (List.mem_of_mem_take hc)).1
 unfold folF
 split
 ·simp only;omega
 ·exact h
abbrev thB' (b:Bool):ABlk:=⟨.cells [thV b] 104 false false,0⟩
structure FolB (b:Bool) (h H:Heap) (id n bx r1 p8 r2:Nat):Prop where
 x:Ext h H
 b0:H[h.length]?=some (pB id)
 b1:H[h.length+1]?=some (thB' b)
 b2:H[h.length+2]?=some (cutB noC)
 b7:H[bx]?=some (cslB (.slice (some ⟨r1,0,0⟩) n n))
 b8:H[p8]?=some (islB (.slice (some ⟨r2,0,0⟩) n n))
theorem FolB.ext {b:Bool} {h H H':Heap} {id n bx r1 p8 r2:Nat} (q:FolB b h H id n bx r1 p8 r2) (e:Ext H H'):FolB b h H' id n bx r1 p8 r2:=⟨q.x.trans e,e.get q.b0,e.get q.b1,e.get q.b2,e.get q.b7,e.get q.b8⟩
theorem FolB.set {b:Bool} {h H:Heap} {id n bx r1 p8 r2 i:Nat} {k:ABlk} (q:FolB b h H id n bx r1 p8 r2) (h0:h.length+2<i) (h1:i ≠ bx) (h2:i ≠ p8):FolB b h (H.set i k) id n bx r1 p8 r2 :=
 ⟨q.x.set (by omega),by rw [List.getElem?_set_ne (by omega)];exact q.b0,by rw [List.getElem?_set_ne (by omega)];exact q.b1,by rw [List.getElem?_set_ne (by omega)];exact q.b2,by rw [List.getElem?_set_ne h1];exact q.b7,by rw [List.getElem?_set_ne h2];exact q.b8⟩
theorem mkI {H:Heap} {n:Nat} (h0:0<n) (h1:n<4294967296):makeSliceA prog H 32 (.int .i64 (n:Int)) (.int .i64 (n:Int))=some (.slice (some ⟨H.length,0,0⟩) n n,H++[rowB (lst (fun _=>0) n) 0]):=by
 rw [make_full Fc.el32 h0 h1]
 have hrep:∀ j,repCells [AVal.int .i64 0] j=ints (lst (fun _=>0) j):=fun j=>by
  induction j with
  | zero=>rfl
  | succ j ih =>
   rw [repCells,ih]
   simp [ints,lst,List.range_succ_eq_map,List.map_map]
 rw [hrep];rfl
theorem stN11 {base:Nat} {l:List Oper} {s:St} {Q:AExit→St→Prop}:WP prog raw base (.region 8 l.toArray true) s Q=WPS prog raw base (.region 8 l.toArray true) s Q:=WP_stop
attribute [local go_sem ↓ 3000] stN11
theorem stN11b {base:Nat} {l:List Oper} {s:St} {Q:AExit→St→Prop}:WP prog raw base (.region 14 l.toArray true) s Q=WPS prog raw base (.region 14 l.toArray true) s Q:=WP_stop
attribute [local go_sem ↓ 3000] stN11b
set_option maxRecDepth 100000 in
set_option maxHeartbeats 4000000 in
theorem run_follow {base id:Nat} {h:Heap} {b:Bool} {R:Rib} (hb:base≤h.length) (hD:DskAt h id R) (hR:RibOk R) :
  Ret prog raw base (.fn 38 [] []) [.ptr (some ⟨id,0,0⟩),.agg [thV b]] h (fun w H=>Ext h H∧Own encC 57 h.length H w (pthL b R R.L.toNat 0)):=by
 have hDe:=fun H (e:Ext h H)=>hD.ext e
 obtain ⟨fv,wv,gd,hF,hW⟩:=hD
 have hL:=hR.L
 have lid:=lt_of_get gd
 have o1:=thV_one (b:=b)
 obtain ⟨n,en⟩:∃ n,n=R.L.toNat:=⟨_,rfl⟩
 have hLn:R.L=(n:Int):=by omega
 have dL:∀ z,ldB (some (false,z)) (some (dskB R.L fv wv R.F)) 0 0=some (.int .i64 (n:Int)):=fun z=>by rw [dsk_ld0,hLn]
 obtain ⟨G1,eG1⟩:∃ G1,G1=h++[pB id]++[thB' b]++[cutB noC]++[bstB (lst (fun _=>0) 122)]++[rowE encC 57 [noC] 0]:=⟨_,rfl⟩
 have x1:Ext h G1:=by rw [eG1];exact .app (.app (.app (.app (.app .refl))))
 have a0:G1[h.length]?=some (pB id):=by rw [eG1];exact get_app (get_app (get_app (get_app (get_eq rfl))))
 have a1:G1[h.length+1]?=some (thB' b):=by rw [eG1];exact get_app (get_app (get_app (get_eq (by simp))))
 have a2:G1[h.length+2]?=some (cutB noC):=by rw [eG1];exact get_app (get_app (get_eq (by simp)))
 have a3:G1[h.length+3]?=some (bstB (lst (fun _=>0) 122)):=by rw [eG1];exact get_app (get_eq (by simp))
 have a4:G1[h.length+4]?=some (rowE encC 57 [noC] 0):=by rw [eG1];exact get_eq (by simp)
 have lG1:G1.length=h.length+5:=by rw [eG1];simp
 have rw1:Rows encC G1 (.slice (some ⟨h.length+4,0,0⟩) 1 1) [noC]:=Rows.own a4 rfl (by simp)
 obtain ⟨w1,H1,e1,y1,rfl,gr1⟩:=run_repeat (base:=base) (n:=n) (by omega) rw1 (by omega)
 have lH1:=y1.len
 have gr1l:=lt_of_get gr1
 rw [lG1] at gr1 gr1l e1
 obtain ⟨r1,er1⟩:∃ r1,r1=h.length+5:=⟨_,rfl⟩
 rw [← er1] at gr1 gr1l e1
 obtain ⟨bx,ebx⟩:∃ bx,bx=H1.length:=⟨_,rfl⟩
 obtain ⟨H2,eH2⟩:∃ H2,H2=H1++[cslB (.slice (some ⟨r1,0,0⟩) n n)]:=⟨_,rfl⟩
 have y2:Ext H1 H2:=by rw [eH2];exact .app .refl
 have lH2:H2.length=bx+1:=by rw [eH2,ebx];simp
 have mk:=mkI (H:=H2) (n:=n) (by omega) (by omega)
 obtain ⟨H3,eH3⟩:∃ H3,H3=H2++[rowB (lst (fun _=>0) n) 0]:=⟨_,rfl⟩
 rw [← eH3,lH2] at mk
 have y3:Ext H2 H3:=by rw [eH3];exact .app .refl
 have lH3:H3.length=bx+2:=by rw [eH3];simp [lH2]
 obtain ⟨H4,eH4⟩:∃ H4,H4=H3++[islB (.slice (some ⟨bx+1,0,0⟩) n n)]:=⟨_,rfl⟩
 have y4:Ext H3 H4:=by rw [eH4];exact .app .refl
 have lH4:H4.length=bx+3:=by rw [eH4];simp [lH3]
 obtain ⟨H5,eH5⟩:∃ H5,H5=H4++[nB ((n:Int)-1)]:=⟨_,rfl⟩
 have y5:Ext H4 H5:=by rw [eH5];exact .app .refl
 have lH5:H5.length=bx+4:=by rw [eH5];simp [lH4]
 have z1:=x1.trans y1
 have z25:=((y2.trans y3).trans y4).trans y5
 have z5:=z1.trans z25
 have gd1:=x1.get gd
 have gd2:=(z1.trans y2).get gd
 have gd4:=((z1.trans y2).trans (y3.trans y4)).get gd
 have c0:=y1.get a0
 have c01:=y2.get c0
 have c04:=(y3.trans y4).get c01
 have hFB:FolB b h H5 id n bx r1 (bx+2) (bx+1):=by
  refine ⟨z5,(y1.trans z25).get a0,(y1.trans z25).get a1,(y1.trans z25).get a2,?_,?_⟩
  ·exact (y3.trans (y4.trans y5)).get (by rw [eH2];exact get_eq ebx)
  ·exact y5.get (by rw [eH4];exact get_eq (by omega))
 have f3:H5[h.length+3]?=some (bstB (bsL b R n)):=by rw [en,bsL_end];exact (y1.trans z25).get a3
 have f4:H5[r1]?=some (rowE encC 57 (nxS b R n) 0):=by rw [en,nxS_end,← en];exact z25.get gr1
 have f5:H5[bx+1]?=some (rowB (toS b R n) 0):=by rw [en,toS_end,← en];exact (y4.trans y5).get (by rw [eH3];exact get_eq (by omega))
 have f6:H5[bx+3]?=some (nB ((n:Int)-1)):=by rw [eH5];exact get_eq (by omega)
 have hu:H1.length=bx:=ebx.symm
 unfold pB at a0 c0 c01 c04
 have eG1':h++[(⟨.cells [.ptr (some ⟨id,0,0⟩)] 96 false false,0⟩:ABlk)]++[⟨.cells [thV b] 104 false false,0⟩]++[⟨.cells [.int .i64 (-1),.int .i64 0,.bool false] 57 false false,0⟩]++[⟨.cells (ints (lst (fun _=>0) 122)) 165 false false,0⟩]++[rowE encC 57 [⟨-1,0,false⟩] 0]=G1:=eG1.symm
 unfold cslB at eH2
 unfold islB at eH4
 unfold nB at eH5
 have bs0:=fun lit H=>bsC1 (lit:=lit) (H:=H) (c:=⟨-1,0,false⟩)
 refine ret_raw func38 rfl (by kernel_rfl) ?_
 have hsp:=@Nat.succ_ne_zero;repeat' (first|simp (disch:=first|exact dqb|fail) only [go_sem,↓reduceIte,hsp,bs0,gd,dL,eG1',a0,gd1,e1,← eH2,c01,gd2,mk,← eH4,hu,lH2,lH3,lH4,c04,gd4,← eH5]|refine WP_drw ?_|refine cnd_intro (fun hsp=>?_) fun hsp=>?_)
 refine WP_count [(9,53),(56,90)] 0 n (Nat.zero_le _) (fun _ i fr H=>∃ a,fr 9=.ptr (some ⟨a,0,0⟩)∧H[a]?=some (nB ((n:Int)-1-(i:Int)))∧bx+3≤a∧FolB b h H id n bx r1 (bx+2) (bx+1)∧H[h.length+3]?=some (bstB (bsL b R (n-i)))∧H[r1]?=some (rowE encC 57 (nxS b R (n-i)) 0)∧H[bx+1]?=some (rowB (toS b R (n-i)) 0)) ?_ ?_ ?_
 ·refine ⟨bx+3,by simp (disch:=first|exact dqb|fail) only [go_sem,↓reduceIte],by rw [f6];simp,Nat.le_refl _,hFB,by rw [Nat.sub_zero];exact f3,by rw [Nat.sub_zero];exact f4,by rw [Nat.sub_zero];exact f5⟩
 ·rintro i fr H hi0 hi hA ⟨a,r9,ga,la,hB,gb,gn,gt⟩
  have p2:=hA 2 rfl
  have p3:=hA 3 rfl
  have p4:=hA 4 rfl
  have p5:=hA 5 rfl
  have p6:=hA 6 rfl
  have p7:=hA 7 rfl
  have p8:=hA 8 rfl
  try simp (disch:=first|exact dqb|fail) only [go_sem,↓reduceIte] at p2 p3 p4 p5 p6 p7 p8
  obtain ⟨x,ex⟩:∃ x,x=n-(i+1):=⟨_,rfl⟩
  have hx:x<R.L.toNat:=by omega
  rw [show (n:Int)-1-(i:Int)=(x:Int) by omega] at ga
  rw [show n-i=x+1 by omega] at gb gn gt
  have hge:((x:Int) ≥ 0)=True:=eq_true (by omega)
  have la2:=lt_of_get ga
  have lb:=lt_of_get gb
  have ln:=lt_of_get gn
  have lt:=lt_of_get gt
  have l7:=lt_of_get hB.b7
  have l8:=lt_of_get hB.b8
  obtain ⟨e0,ee0⟩:∃ e0,e0=(folD b R (x+1)).e:=⟨_,rfl⟩
  obtain ⟨c0,ec0⟩:∃ c0,c0=(folD b R (x+1)).c:=⟨_,rfl⟩
  have ld1:ldB (some (true,2)) (some (bstB (bsL b R (x+1)))) 0 ((x+1) * 2)=some (.agg [.int .i64 e0,.int .i64 c0]):=by
   rw [ldC2 bsL_len (by omega),bsL_e (by omega) (Nat.le_refl _),bsL_c (by omega) (Nat.le_refl _),← ee0,← ec0]
  have st1:∀ (K:ABlk→Heap),stQ base (h.length+3) (some (bstB (bsL b R (x+1)))) 0 (x * 2) [.int .i64 e0,.int .i64 c0] K=some (K (bstB (bsP b R x e0 c0))):=fun K=>by rw [stC2 bsL_len (by omega),bsL_set (by omega)]
  have ex1:((x:Int)+1).toNat=x+1:=by omega
  obtain ⟨Ha,eHa⟩:∃ Ha,Ha=H.set (h.length+3) (bstB (bsP b R x e0 c0)):=⟨_,rfl⟩
  have lHa:Ha.length=H.length:=by rw [eHa,List.length_set]
  have hBa:FolB b h Ha id n bx r1 (bx+2) (bx+1):=by rw [eHa];exact hB.set (by omega) (by omega) (by omega)
  have ga1:Ha[a]?=some (nB (x:Int)):=by rw [eHa,List.getElem?_set_ne (by omega)];exact ga
  have gb1:Ha[h.length+3]?=some (bstB (bsP b R x e0 c0)):=by rw [eHa,List.getElem?_set_self lb]
  have gn1:Ha[r1]?=some (rowE encC 57 (nxP b R x noC) 0):=by rw [eHa,List.getElem?_set_ne (by omega),← nxS_P];exact gn
  have gt1:Ha[bx+1]?=some (rowB (toS b R (x+1)) 0):=by rw [eHa,List.getElem?_set_ne (by omega)];exact gt
  have iT1:=ints_rowB gt1 (toS_small hR) (toS_len.trans en.symm).symm
  have st2:∀ (K:ABlk→Heap),stQ base (bx+1) (some (rowB (toS b R (x+1)) 0)) 0 x [.int .i64 ((x:Int)+1)] K=some (K (rowB (toP b R x ((x:Int)+1)) 0)):=fun K=>by rw [stQ_row (by rw [toS_len];exact hx),toS_set hx]
  obtain ⟨H1',eH1'⟩:∃ H1',H1'=Ha.set (bx+1) (rowB (toP b R x ((x:Int)+1)) 0):=⟨_,rfl⟩
  have lH1':H1'.length=H.length:=by rw [eH1',List.length_set,lHa]
  have hB1:FolB b h H1' id n bx r1 (bx+2) (bx+1):=by rw [eH1'];exact hBa.set (by omega) (by omega) (by omega)
  have ga2:H1'[a]?=some (nB (x:Int)):=by rw [eH1',List.getElem?_set_ne (by omega)];exact ga1
  have gb2:H1'[h.length+3]?=some (bstB (bsP b R x e0 c0)):=by rw [eH1',List.getElem?_set_ne (by omega)];exact gb1
  have gn2:H1'[r1]?=some (rowE encC 57 (nxP b R x noC) 0):=by rw [eH1',List.getElem?_set_ne (by omega)];exact gn1
  have gt2:H1'[bx+1]?=some (rowB (toP b R x ((x:Int)+1)) 0):=by rw [eH1',List.getElem?_set_self (by omega)]
  obtain ⟨w3,H3',e3,rfl,eH3'⟩:=run_cuts (base:=base) (id:=id) (x:=x) (h:=H1')
  have x3:Ext H1' H3':=by rw [eH3'];exact .app (.app .refl)
  have l3:H3'.length=H1'.length+2:=by rw [eH3'];simp
  have gdb:H3'[H1'.length]?=some (pB id):=by rw [eH3'];exact get_app (get_eq rfl)
  have gfb:H3'[H1'.length+1]?=some (nB (x:Int)):=by rw [eH3'];exact get_eq (by simp)
  have b0':=hB1.b0
  have b8:=hB.b8
  have b8a:=hBa.b8
  unfold nB at ga ga1 ga2
  unfold bstB at ld1 st1 gb eHa
  unfold islB at b8 b8a
  unfold pB at b0'
  have hsp:=@Nat.succ_ne_zero;repeat' (first|simp (disch:=first|exact dqb|fail) only [go_sem,↓reduceIte,hsp,r9,p2,p3,p4,p5,p6,p7,p8,ga,hge]|refine WP_drw ?_|refine cnd_intro (fun hsp=>?_) fun hsp=>?_)
  refine WPS_go ?_
  refine WP_loose [⟨1,32,8,⟨bx+2,0,0⟩,.slice (some ⟨bx+1,0,0⟩) n n,12⟩,⟨2,3,9,⟨a,0,0⟩,.int .i64 (x:Int),12⟩,⟨7,3,9,⟨a,0,0⟩,.int .i64 (x:Int),12⟩] (by kernel_rfl) (by kernel_rfl) ⟨refsLow_slice (by omega),refsLow_int,refsLow_int,trivial⟩ fun K hK=>?_
  iterate 13
   rw [TRS_cons]
   refine ⟨by first|(simp (disch:=first|exact dqb|fail) only [go_sem,↓reduceIte,r9,p2,p3,p4,p5,p6,p7,p8,ga,b8,gb,ld1,ex1,st1,← eHa,ga1,b8a,gt1,st2,← eH1',ldsQ_cons,ldsQ_nil,grdQ_cons,grdQ_nil,if_true,Nat.reduceLeDiff];done)|exact trivial,?_⟩
   simp (disch:=first|exact dqb|fail) only [go_sem,↓reduceIte,r9,p2,p3,p4,p5,p6,p7,p8,ga,b8,gb,ld1,ex1,st1,← eHa,ga1,b8a,gt1,st2,← eH1']
  rw [TRS_nil]
  refine ⟨by first|(simp (disch:=first|exact dqb|fail) only [go_sem,↓reduceIte,r9,p2,p3,p4,p5,p6,p7,p8,ga,b8,gb,ld1,ex1,st1,← eHa,ga1,b8a,gt1,st2,← eH1',ldsQ_cons,ldsQ_nil,grdQ_cons,grdQ_nil,if_true,Nat.reduceLeDiff];done)|exact trivial,?_⟩
  subst hK
  have hsp:=@Nat.succ_ne_zero;repeat' (first|simp (disch:=first|exact dqb|fail) only [go_sem,↓reduceIte,hsp,r9,p2,p3,p4,p5,p6,p7,p8,b0',ga2,e3]|refine WP_drw ?_|refine cnd_intro (fun hsp=>?_) fun hsp=>?_)
  refine WP_rangeX (by simp (disch:=first|exact dqb|fail) only [go_sem,↓reduceIte]) (N:=(cutL R x).length) (X:=XC R x) (pr:=prT) (fun j K=>H3'.length+1≤K.length∧FolB b h K id n bx r1 (bx+2) (bx+1)∧K[a]?=some (nB (x:Int))∧K[H1'.length]?=some (pB id)∧K[H1'.length+1]?=some (nB (x:Int))∧K[h.length+3]?=some (bstB (bsP b R x (stF b R x j).e (stF b R x j).c))∧K[r1]?=some (rowE encC 57 (nxP b R x (stF b R x j).nx) 0)∧K[bx+1]?=some (rowB (toP b R x ((stF b R x j).to:Int)) 0)) (fun _ _=>False)
   (cuts_yields (id:=id) (db:=H1'.length) (fb:=H1'.length+1) (by omega) hR hx (fun j K q=>⟨hDe K q.2.1.x,q.2.2.2.1,q.2.2.2.2.1⟩)) ?_ ?_ ?_ ?_ ?_ ?_ ?_ ?_
  ·rintro j d K ⟨c,_,rfl⟩;rfl
  ·rintro j K T ⟨i1,i2,i3,i4,i5,i6,i7,i8⟩
   exact ⟨by simp;omega,i2.ext (.app .refl),get_app i3,get_app i4,get_app i5,get_app i6,get_app i7,get_app i8⟩
  ·rintro j K B ⟨i1,i2,i3,i4,i5,i6,i7,i8⟩
   have q1:=lt_of_get ga2
   exact ⟨by simpa using i1,i2.set (by omega) (by omega) (by omega),by rw [List.getElem?_set_ne (by omega)];exact i3,by rw [List.getElem?_set_ne (by omega)];exact i4,by rw [List.getElem?_set_ne (by omega)];exact i5,by rw [List.getElem?_set_ne (by omega)];exact i6,by rw [List.getElem?_set_ne (by omega)];exact i7,by rw [List.getElem?_set_ne (by omega)];exact i8⟩
  ·intro e K B q;exact q
  ·exact ⟨by simp,hB1.ext (x3.trans (.app .refl)),get_app (x3.get ga2),get_app gdb,get_app gfb,get_app (x3.get (by rw [gb2,ee0,ec0];rfl)),get_app (x3.get gn2),get_app (x3.get gt2)⟩
  ·rintro j d K B1 B2 hj ⟨c,hc,rfl⟩ ⟨i1,i2,i3,i4,i5,i6,i7,i8⟩ hKl hBB
   have hcb:=(cutL_b hR hx (List.mem_of_getElem? hc)).1
   have hsu:=stF_succ (b:=b) hc
   have hsb:=stF_b (b:=b) (j:=j) hR hx
   obtain ⟨⟨cw,cf,cj⟩,ce,cp⟩:=c
   dsimp only at hcb
   obtain ⟨e,rfl⟩:=Int.eq_ofNat_of_zero_le (show 0≤ce by omega)
   unfold folF at hsu
   simp only [Int.toNat_natCast] at hsu
   obtain ⟨s,es⟩:∃ s,s=stF b R x j:=⟨_,rfl⟩
   rw [← es] at i6 i7 i8 hsu hsb
   have fb:=folD_bd (b:=b) (x:=e) hR
   obtain ⟨fe,efe⟩:∃ fe,fe=(folD b R e).e:=⟨_,rfl⟩
   obtain ⟨fc,efc⟩:∃ fc,fc=(folD b R e).c:=⟨_,rfl⟩
   rw [← efe,← efc] at fb hsu
   obtain ⟨K1,eK1⟩:∃ K1,K1=K.set H3'.length B2:=⟨_,rfl⟩
   have lK1:K1.length=K.length:=by rw [eK1,List.length_set]
   obtain ⟨K2,eK2⟩:∃ K2,K2=K1++[cutB ⟨cw,cf,cj⟩]++[wayB (e:Int) cp]:=⟨_,rfl⟩
   have lK2:K2.length=K.length+2:=by rw [eK2];simp [lK1]
   have y2:Ext K1 K2:=by rw [eK2];exact .app (.app .refl)
   obtain ⟨K3,eK3⟩:∃ K3,K3=K2++[⟨.cells [.int .i64 (fe+cp),.int .i64 (fc+1)] 101 false false,0⟩]:=⟨_,rfl⟩
   have lK3:K3.length=K.length+3:=by rw [eK3];simp [lK2]
   have y3:Ext K2 K3:=by rw [eK3];exact .app .refl
   have q1:=lt_of_get ga2
   have nk1:∀ {i:Nat} {z:ABlk},i ≠ H3'.length→K[i]?=some z→K1[i]?=some z:=fun hi hz=>by rw [eK1,List.getElem?_set_ne (fun q=>hi q.symm)];exact hz
   have j2:FolB b h K1 id n bx r1 (bx+2) (bx+1):=by rw [eK1];exact i2.set (by omega) (by omega) (by omega)
   have m3:=y2.get (nk1 (by omega) i3)
   have m6:=y2.get (nk1 (by omega) i6)
   have m1:=(j2.ext (y2.trans y3)).b1
   have k3:=y3.get m3
   have k6:=y3.get m6
   have k3':=k3
   have k7:=(y2.trans y3).get (nk1 (by omega) i7)
   have k8:=(y2.trans y3).get (nk1 (by omega) i8)
   have kc:K2[K.length]?=some (cutB ⟨cw,cf,cj⟩):=by rw [eK2];exact get_app (get_eq lK1.symm)
   have kw:K2[K.length+1]?=some (wayB (e:Int) cp):=by rw [eK2];exact get_eq (by simp [lK1])
   have kc3:=y3.get kc
   have kw3:=y3.get kw
   have kn:K3[K.length+2]?=some ⟨.cells [.int .i64 (fe+cp),.int .i64 (fc+1)] 101 false false,0⟩:=by rw [eK3];exact get_eq lK2.symm
   have ldA:∀ z,ldB (some (false,z)) (some (bstB (bsP b R x s.e s.c))) 0 (e * 2)=some (.int .i64 fe):=fun z=>by rw [ldB_ints (by rw [bsP_len];omega),bsP_e (by omega) (by omega),efe]
   have ldB':∀ z,ldB (some (false,z)) (some (bstB (bsP b R x s.e s.c))) 0 (e * 2+1)=some (.int .i64 fc):=fun z=>by rw [ldB_ints (by rw [bsP_len];omega),bsP_c (by omega) (by omega),efc]
   have ldX:ldB (some (true,2)) (some (bstB (bsP b R x s.e s.c))) 0 (x * 2)=some (.agg [.int .i64 s.e,.int .i64 s.c]):=by
    rw [ldC2 bsP_len (by omega),bsP_xe (by omega),bsP_xc (by omega)]
   have eth:=fun base=>run_than (base:=base) (h:=K3) (b:=b) (e:=fe+cp) (c:=fc+1) (e':=s.e) (c':=s.c)
   have lc2:K.length+1+1=K2.length:=by omega
   have j7:=(j2.ext (y2.trans y3)).b7
   have j8:=(j2.ext (y2.trans y3)).b8
   unfold bstB at m6 k6 ldA ldB' ldX
   unfold nB at m3 k3
   unfold cutB wayB at eK2
   unfold wayB at kw kw3
   unfold cutB at kc kc3
   rcases Bool.eq_false_or_eq_true (thB b (fe+cp,fc+1) (s.e,s.c)) with q|q
   ·rw [q] at eth
    rw [if_pos q] at hsu
    obtain ⟨K4,eK4⟩:∃ K4,K4=K3.set (h.length+3) (bstB (bsP b R x (fe+cp) (fc+1))):=⟨_,rfl⟩
    have lK4:K4.length=K3.length:=by rw [eK4,List.length_set]
    obtain ⟨K5,eK5⟩:∃ K5,K5=K4.set r1 (rowE encC 57 (nxP b R x ⟨cw,cf,cj⟩) 0):=⟨_,rfl⟩
    have lK5:K5.length=K3.length:=by rw [eK5,List.length_set,lK4]
    obtain ⟨K6,eK6⟩:∃ K6,K6=K5.set (bx+1) (rowB (toP b R x (e:Int)) 0):=⟨_,rfl⟩
    have lK6:K6.length=K3.length:=by rw [eK6,List.length_set,lK5]
    have nk6:∀ {i:Nat} {z:ABlk},i ≠ h.length+3→i ≠ r1→i ≠ bx+1→K3[i]?=some z→K6[i]?=some z:=fun h1 h2 h3 hz=>by
     rw [eK6,List.getElem?_set_ne (fun q=>h3 q.symm),eK5,List.getElem?_set_ne (fun q=>h2 q.symm),eK4,List.getElem?_set_ne (fun q=>h1 q.symm)];exact hz
    have k47:K4[r1]?=some (rowE encC 57 (nxP b R x s.nx) 0):=by rw [eK4,List.getElem?_set_ne (by omega)];exact k7
    have k58:K5[bx+1]?=some (rowB (toP b R x (s.to:Int)) 0):=by rw [eK5,List.getElem?_set_ne (by omega),eK4,List.getElem?_set_ne (by omega)];exact k8
    have sts:Small (toP b R x (s.to:Int)):=by
     refine ⟨by rw [toP_len];omega,fun y hy=>?_⟩
     unfold toP lst at hy
     obtain ⟨i,hi,rfl⟩:=List.mem_map.1 hy
     have hi:=List.mem_range.1 hi
     have:=folD_to (b:=b) hR hi
     split
     ·omega
     ·split<;>omega
    have iT5:=ints_rowB k58 sts (toP_len.trans en.symm).symm
    have stA:∀ (F:ABlk→Heap),stQ base (h.length+3) (some (bstB (bsP b R x s.e s.c))) 0 (x * 2) [.int .i64 (fe+cp),.int .i64 (fc+1)] F=some (F (bstB (bsP b R x (fe+cp) (fc+1)))):=fun F=>by rw [stC2 bsP_len (by omega),bsP_set (by omega)]
    have stB':∀ (F:ABlk→Heap),stQ base r1 (some (rowE encC 57 (nxP b R x s.nx) 0)) 0 (x * 3) [.int .i64 cw,.int .i64 cf,.bool cj] F=some (F (rowE encC 57 (nxP b R x ⟨cw,cf,cj⟩) 0)):=fun F=>by
     have:=stQ_rowE (E:=encC) (e:=57) (l:=nxP b R x s.nx) (i:=x) (base:=base) (id:=r1) (ver:=0) (x:=⟨cw,cf,cj⟩) (K:=F) (by rw [nxP_len];exact hx) (encC_sc _) (by omega)
     rw [nxP_set hx] at this;exact this
    have stC':∀ (F:ABlk→Heap),stQ base (bx+1) (some (rowB (toP b R x (s.to:Int)) 0)) 0 x [.int .i64 (e:Int)] F=some (F (rowB (toP b R x (e:Int)) 0)):=fun F=>by rw [stQ_row (by rw [toP_len];exact hx),toP_set hx]
    have hw1:r1<K3.length:=by omega
    have hw2:bx+1<K3.length:=by omega
    have hlowC:refsLow K3.length (.agg [.int .i64 cw,.int .i64 cf,.bool cj]):=by simp [refsLow,AVal.refs,refsL]
    have j74:K4[bx]?=some (cslB (.slice (some ⟨r1,0,0⟩) n n)):=by rw [eK4,List.getElem?_set_ne (by omega)];exact j7
    have j85:K5[bx+2]?=some (islB (.slice (some ⟨bx+1,0,0⟩) n n)):=by rw [eK5,List.getElem?_set_ne (by omega),eK4,List.getElem?_set_ne (by omega)];exact j8
    have j84:K4[bx+2]?=some (islB (.slice (some ⟨bx+1,0,0⟩) n n)):=by rw [eK4,List.getElem?_set_ne (by omega)];exact j8
    have k34:K4[a]?=some (nB (x:Int)):=by rw [eK4,List.getElem?_set_ne (by omega)];exact k3
    have k35:K5[a]?=some (nB (x:Int)):=by rw [eK5,List.getElem?_set_ne (by omega)];exact k34
    have kc4:K4[K.length]?=some (cutB ⟨cw,cf,cj⟩):=by rw [eK4,List.getElem?_set_ne (by omega)];exact kc3
    have kw4:K4[K.length+1]?=some (wayB (e:Int) cp):=by rw [eK4,List.getElem?_set_ne (by omega)];exact kw3
    have kw5:K5[K.length+1]?=some (wayB (e:Int) cp):=by rw [eK5,List.getElem?_set_ne (by omega)];exact kw4
    unfold bstB at stA eK4
    unfold cslB at j7 j74
    unfold islB at j8 j84 j85
    unfold nB at k34 k35
    unfold cutB at kc4
    unfold wayB at kw4 kw5
    have hsp:=@Nat.succ_ne_zero;repeat' (first|simp (disch:=first|exact dqb|fail) only [go_sem,↓reduceIte,hsp,r9,p2,p3,p4,p5,p6,p7,p8,hBB,← eK1,← eK2,lK1,lK2,kw,m6,ldA,ldB',← eK3,m1,kn,k3,k6,ldX,eth]|refine WP_drw ?_|refine cnd_intro (fun hsp=>?_) fun hsp=>?_)
    refine WPS_go ?_
    refine WP_loose [⟨1,51,7,⟨bx,0,0⟩,.slice (some ⟨r1,0,0⟩) n n,12⟩,⟨2,3,9,⟨a,0,0⟩,.int .i64 (x:Int),12⟩,⟨3,32,8,⟨bx+2,0,0⟩,.slice (some ⟨bx+1,0,0⟩) n n,14⟩,⟨4,3,9,⟨a,0,0⟩,.int .i64 (x:Int),14⟩,⟨6,57,10,⟨K.length,0,0⟩,.agg [.int .i64 cw,.int .i64 cf,.bool cj],12⟩,⟨8,3,85,⟨K.length+1,0,0⟩,.int .i64 (e:Int),14⟩] (by kernel_rfl) (by kernel_rfl) ⟨refsLow_slice hw1,refsLow_int,refsLow_slice hw2,refsLow_int,hlowC,refsLow_int,trivial⟩ fun KK hK=>?_
    iterate 15
     rw [TRS_cons]
     refine ⟨by first|(simp (disch:=first|exact dqb|fail) only [go_sem,↓reduceIte,r9,p2,p3,p4,p5,p6,p7,p8,k3,j7,j8,kn,kc3,kw3,k6,stA,← eK4,k34,j74,j84,kc4,kw4,k47,stB',← eK5,k35,j85,kw5,k58,stC',← eK6,lK1,lK2,lK3,ldsQ_cons,ldsQ_nil,grdQ_cons,grdQ_nil,if_true,Nat.reduceLeDiff];done)|exact trivial,?_⟩
     simp (disch:=first|exact dqb|fail) only [go_sem,↓reduceIte,r9,p2,p3,p4,p5,p6,p7,p8,k3,j7,j8,kn,kc3,kw3,k6,stA,← eK4,k34,j74,j84,kc4,kw4,k47,stB',← eK5,k35,j85,kw5,k58,stC',← eK6,lK1,lK2,lK3]
    rw [TRS_nil]
    refine ⟨by first|(simp (disch:=first|exact dqb|fail) only [go_sem,↓reduceIte,r9,p2,p3,p4,p5,p6,p7,p8,k3,j7,j8,kn,kc3,kw3,k6,stA,← eK4,k34,j74,j84,kc4,kw4,k47,stB',← eK5,k35,j85,kw5,k58,stC',← eK6,lK1,lK2,lK3,ldsQ_cons,ldsQ_nil,grdQ_cons,grdQ_nil,if_true,Nat.reduceLeDiff];done)|exact trivial,?_⟩
    subst hK
    have hsp:=@Nat.succ_ne_zero;repeat' (first|simp (disch:=first|exact dqb|fail) only [go_sem,↓reduceIte,hsp]|refine WP_drw ?_|refine cnd_intro (fun hsp=>?_) fun hsp=>?_)
    have yy:=y2.trans y3
    refine ⟨nk6 (by omega) (by omega) (by omega) (yy.get (by rw [eK1,List.getElem?_set_self (by omega)])),fun i z hi hp hz=>nk6 (by omega) (by omega) (by omega) (yy.get (nk1 (by omega) hz)),by omega,.inl ⟨by omega,?_,nk6 (by omega) (by omega) (by omega) k3',nk6 (by omega) (by omega) (by omega) (yy.get (nk1 (by omega) i4)),nk6 (by omega) (by omega) (by omega) (yy.get (nk1 (by omega) i5)),?_,?_,?_⟩⟩
    ·rw [eK6,eK5,eK4]
     exact (((j2.ext yy).set (by omega) (by omega) (by omega)).set (by omega) (by omega) (by omega)).set (by omega) (by omega) (by omega)
    ·rw [hsu,eK6,List.getElem?_set_ne (by omega),eK5,List.getElem?_set_ne (by omega),eK4,List.getElem?_set_self (by omega)]
    ·rw [hsu,eK6,List.getElem?_set_ne (by omega),eK5,List.getElem?_set_self (by omega)]
    ·rw [hsu,eK6,List.getElem?_set_self (by omega)]
   ·rw [q] at eth
    rw [if_neg (by rw [q];simp)] at hsu
    have hsp:=@Nat.succ_ne_zero;repeat' (first|simp (disch:=first|exact dqb|fail) only [go_sem,↓reduceIte,hsp,r9,p2,p3,p4,p5,p6,p7,p8,hBB,← eK1,← eK2,lK1,lK2,kw,m6,ldA,ldB',← eK3,m1,kn,k3,k6,ldX,eth]|refine WP_drw ?_|refine cnd_intro (fun hsp=>?_) fun hsp=>?_)
    exact ⟨(y2.trans y3).get (by rw [eK1,List.getElem?_set_self (by omega)]),fun i z hi hp hz=>(y2.trans y3).get (nk1 (by omega) hz),by omega,.inl ⟨by omega,j2.ext (y2.trans y3),(y2.trans y3).get (nk1 (by omega) i4),(y2.trans y3).get (nk1 (by omega) i5),by rw [hsu],by rw [hsu];exact k7,by rw [hsu];exact k8⟩⟩
  ·rintro K ⟨i1,i2,i3,i4,i5,i6,i7,i8⟩
   rw [stF_all hR hx] at i6 i7 i8
   rw [bsP_all] at i6
   rw [nxP_all] at i7
   rw [toP_all] at i8
   unfold nB at i3
   have hsp:=@Nat.succ_ne_zero;repeat' (first|simp (disch:=first|exact dqb|fail) only [go_sem,↓reduceIte,hsp,r9,p2,p3,p4,p5,p6,p7,p8,i3]|refine WP_drw ?_|refine cnd_intro (fun hsp=>?_) fun hsp=>?_)
   refine ⟨agq,_,rfl,by rw [get_eq rfl,show (n:Int)-1-((i+1:Nat):Int)=(x:Int)-1 by omega],by omega,i2.ext (.app .refl),by rw [← ex];exact i6,by rw [← ex];exact i7,by rw [← ex];exact i8⟩
  ·intro e K _ q;exact q.elim
 ·rintro fr H hA ⟨a,r9,ga,la,hB,gb,gn,gt⟩
  have p2:=hA 2 rfl
  have p3:=hA 3 rfl
  have p4:=hA 4 rfl
  have p5:=hA 5 rfl
  have p6:=hA 6 rfl
  have p7:=hA 7 rfl
  have p8:=hA 8 rfl
  try simp (disch:=first|exact dqb|fail) only [go_sem,↓reduceIte] at p2 p3 p4 p5 p6 p7 p8
  have hge:(((n:Int)-1-(n:Int)) ≥ 0)=False:=eq_false (by omega)
  rw [Nat.sub_self] at gb gn gt
  have lK:=lt_of_get ga
  have hC:FolC b R H id h.length bx (h.length+2) (bx+2) r1 (bx+1):=⟨hDe H hB.x,hB.b0,by rw [← en];exact hB.b7,gn,hB.b2,by rw [← en];exact hB.b8,gt⟩
  obtain ⟨K1,eK1⟩:∃ K1,K1=H++[cslB (.slice none 0 0)]++[onB (onV h.length bx (h.length+2) H.length (H.length+1) (bx+2))]:=⟨_,rfl⟩
  have x1':Ext H K1:=by rw [eK1];exact .app (.app .refl)
  have ko:K1[H.length]?=some (cslB (.slice none 0 0)):=by rw [eK1];exact get_app (get_eq rfl)
  have kf:K1[H.length+1]?=some (onB (onV h.length bx (h.length+2) H.length (H.length+1) (bx+2))):=by rw [eK1];exact get_eq (by simp)
  have lK1:K1.length=H.length+2:=by rw [eK1];simp
  have hle:=hB.x.len
  obtain ⟨w2,H9,e9,rfl,x9,l9,ov,go9,gf9,hO9⟩:=run_on (base:=base) (ou:=H.length) hR hC (by omega) rfl n 0 K1 (.slice none 0 0) [] (by omega) (by omega) x1' ko kf Own.nil (by simp;omega)
  have kf':=kf
  have go':=go9
  unfold nB at ga
  unfold onB onV at kf'
  unfold onV at e9
  rw [Int.natCast_zero] at e9
  rw [List.nil_append] at hO9
  unfold cslB onB onV at eK1
  unfold cslB at go'
  have hsp:=@Nat.succ_ne_zero;repeat' (first|simp (disch:=first|exact dqb|fail) only [go_sem,↓reduceIte,hsp,r9,p2,p3,p4,p5,p6,p7,p8,ga,hge,← eK1,kf',e9,go']|refine WP_drw ?_|refine cnd_intro (fun hsp=>?_) fun hsp=>?_)
  exact ⟨hB.x.trans x9,by rw [← en];exact hO9.low (by omega)⟩
end Go.AM
namespace Go.AM
open Go.Proofs.Tryz
def Off (X:List Nat) (v:AVal):Prop:=∀ r n c,v=.slice (some r) n c→r.id ∉ X
theorem Own.setOff {α:Type} {E:Enc α} {e:TypeId} {b i:Nat} {h:Heap} {v:AVal} {l:List α} {X:List Nat} {k:ABlk} (x:Own E e b h v l) (hX:Off X v) (hi:i ∈ X):Own E e b (h.set i k) v l:=by
 rcases x with ⟨rfl,rfl⟩|⟨id,ver,rfl,h1,h2,h3⟩
 ·exact .nil
 ·have hne:i ≠ id:=fun e=>hX _ _ _ rfl (e ▸ hi)
  exact .inr ⟨id,ver,rfl,by rw [List.getElem?_set_ne hne];exact h1,h2,h3⟩
theorem Own.lowid {α:Type} {E:Enc α} {e:TypeId} {b:Nat} {h:Heap} {v:AVal} {l:List α} (x:Own E e b h v l):∀ r n c,v=.slice (some r) n c→r.id<h.length:=by
 intro r n c q
 rcases x with ⟨rfl,_⟩|⟨id,ver,rfl,h1,_,_⟩
 ·cases q
 ·cases q;exact lt_of_get h1
def KeepX (ob:Nat) (H H':Heap):Prop:=H.length≤H'.length∧∀ i b,i ≠ ob→H[i]?=some b→H'[i]?=some b
section
variable {ob:Nat} {H H' H2 h:Heap}
end
end Go.AM
namespace Go.AM
open Go.Proofs.Tryz
attribute [-go_sem] put_ne put_same
attribute [local go_sem ↓] put_if
theorem Own.append1Off {b base i:Nat} {H:Heap} {v:AVal} {l:List Int} {y:Int} (hO:Own encI 3 b H v l) (hX:Off [i] v) (hi:i<H.length) (hb:base≤b) (hbh:b≤H.length) (hsz:l.length+1<2147483648) :
  ∃ v' H',appendA prog base H 32 v (.vals [.int .i64 y])=some (v',H')∧Own encI 3 b H' v' (l++[y])∧H.length≤H'.length∧(∀ G,G.length≤b→Ext G H→Ext G H')∧One v'∧KeepO encI 3 H H'∧Off [i] v'∧H'[i]?=H[i]?:=by
 have ea:=app_sn1 (P:=prog) (y:=y) (a:=.int .i64 y) (base:=base) (t:=32) hO rfl rfl Fc.el32 encI_sc hb hsz
 refine ⟨_,_,ea,hO.sn (m:=[y]) hbh (by simp),snH_len,fun G hG g=>hO.sn_ext hG g,snV_one,?_,?_,?_⟩
 ·rcases hO with ⟨rfl,rfl⟩|⟨id,ver,rfl,h1,h2,h3⟩
  ·intro j z g _;exact get_app g
  ·intro j z g hz
   have hne:id ≠ j:=by
    rintro rfl
    rw [h1] at g
    exact hz l ver (Option.some.inj g).symm
   show (H.set id _)[j]?=_
   rw [List.getElem?_set_ne hne];exact g
 ·rcases hO with ⟨rfl,rfl⟩|⟨id,ver,rfl,h1,h2,h3⟩
  ·intro r n c q hm
   simp only [snV,AVal.slice.injEq,Option.some.injEq] at q
   rw [← q.1] at hm
   simp at hm;omega
  ·intro r n c q hm
   simp only [snV,AVal.slice.injEq,Option.some.injEq] at q
   rw [← q.1] at hm
   exact hX _ _ _ rfl hm
 ·rcases hO with ⟨rfl,rfl⟩|⟨id,ver,rfl,h1,h2,h3⟩
  ·show (H++_)[i]?=_
   rw [List.getElem?_append_left hi]
  ·have hne:id ≠ i:=fun e=>hX _ _ _ rfl (by simp [e])
   show (H.set id _)[i]?=_
   rw [List.getElem?_set_ne hne]
theorem run_sort0 {base:Nat} {h:Heap}:callL prog raw base (.fn 149 [] []) [.slice none 0 0] h=some (.tuple [],h):=by
 have hlen:∀ (H:Heap),lenOpA prog H 32 (.slice none 0 0)=some (.int .i64 0):=fun H=>lenI ints_nil
 have c1:convA prog 163 3 (.int .i64 0)=some (.int .u64 0):=by
  simp only [convA,underlying3,Fc.ik163];rfl
 have e1:=fun base=>run_len (base:=base) (h:=h) (n:=0) (by omega)
 rw [Int.natCast_zero] at e1
 have t1:((0:Int)-0≤12)=True:=eq_true (by omega)
 have t2:((0:Int)≤12)=True:=eq_true (by omega)
 have t3:((1:Int)<0)=False:=eq_false (by omega)
 have t4:((0:Int)+1<0)=False:=eq_false (by omega)
 have hins:∀ base,callL prog raw base (.fn 163 [] []) [.slice none 0 0,.int .i64 0,.int .i64 0] h=some (.tuple [],h):=by
  intro base
  refine callL_run func163 rfl rfl ?_
  have hsp:=@Nat.succ_ne_zero;repeat' (first|simp (disch:=first|exact dqb|fail) only [go_sem,↓reduceIte,hsp]|refine WP_drw ?_|refine cnd_intro (fun hsp=>?_) fun hsp=>?_)
  rw [WP_loop1]
  have hsp:=@Nat.succ_ne_zero;repeat' (first|simp (disch:=first|exact dqb|fail) only [go_sem,↓reduceIte,hsp,t3,t4]|refine WP_drw ?_|refine cnd_intro (fun hsp=>?_) fun hsp=>?_)
  exact compact_plain' rfl
 have hpdq:∀ base k,callL prog raw base (.fn 161 [] []) [.slice none 0 0,.int .i64 0,.int .i64 0,.int .i64 k] h=some (.tuple [],h):=by
  intro base k
  refine callL_run func161 rfl rfl ?_
  have hsp:=@Nat.succ_ne_zero;repeat' (first|simp (disch:=first|exact dqb|fail) only [go_sem,↓reduceIte,hsp]|refine WP_drw ?_|refine cnd_intro (fun hsp=>?_) fun hsp=>?_)
  rw [WP_loop1]
  have hsp:=@Nat.succ_ne_zero;repeat' (first|simp (disch:=first|exact dqb|fail) only [go_sem,↓reduceIte,hsp,t1,t2,hins,Int.sub_zero]|refine WP_drw ?_|refine cnd_intro (fun hsp=>?_) fun hsp=>?_)
  exact compact_plain' rfl
 refine callL_run func149 rfl rfl ?_
 have hsp:=@Nat.succ_ne_zero;repeat' (first|simp (disch:=first|exact dqb|fail) only [go_sem,↓reduceIte,hsp,hlen,c1,e1,hpdq]|refine WP_drw ?_|refine cnd_intro (fun hsp=>?_) fun hsp=>?_)
 exact compact_plain' rfl
section
variable {R:Rib} {x j:Nat}
def bfJ (R:Rib) (x j:Nat):List Int:=((cutL R x).take j).foldl (fun K' c=>rlxL K' c.2.1.toNat ((bfN R x).getD x 0+c.2.2)) (rlxL (bfN R x) (x+1) ((bfN R x).getD x 0))
def usJ (R:Rib) (x j:Nat):List Int:=((cutL R x).take j).foldl (usF R ((bfN R x).getD x 0)) (usN R x)
theorem bfJ_succ {c:Ct × Int × Int} (h:(cutL R x)[j]?=some c):bfJ R x (j+1)=rlxL (bfJ R x j) c.2.1.toNat ((bfN R x).getD x 0+c.2.2):=by
 unfold bfJ;rw [List.take_add_one,h,List.foldl_append];rfl
theorem usJ_succ {c:Ct × Int × Int} (h:(cutL R x)[j]?=some c):usJ R x (j+1)=usF R ((bfN R x).getD x 0) (usJ R x j) c:=by
 unfold usJ;rw [List.take_add_one,h,List.foldl_append];rfl
theorem bfJ_all:bfJ R x (cutL R x).length=bfN R (x+1):=by unfold bfJ;rw [List.take_length];rfl
theorem usJ_all:usJ R x (cutL R x).length=usN R (x+1):=by unfold usJ;rw [List.take_length];rfl
theorem bfJ_len:(bfJ R x j).length=61:=by
 unfold bfJ
 refine foldl_inv (I:=fun K':List Int=>K'.length=61) (by rw [rlxL_len,bfN_len]) fun b c _ h=>by rw [rlxL_len];exact h
theorem bfJ_x (hR:RibOk R) (hx:x<R.L.toNat):(bfJ R x j).getD x 0=(bfN R x).getD x 0:=by
 have hL:=hR.L
 unfold bfJ
 refine (foldl_inv (I:=fun K':List Int=>K'.length=61∧K'.getD x 0=(bfN R x).getD x 0) ⟨by rw [rlxL_len,bfN_len],?_⟩ fun b c hc h=>?_).2
 ·rw [rlxL_at (by rw [bfN_len];omega)];exact rlx_ne (by omega)
 ·have hb:=(cutL_b hR hx (List.mem_of_mem_take hc)).1
  refine ⟨by rw [rlxL_len];exact h.1,?_⟩
  rw [rlxL_at (by rw [h.1];omega)]
  rw [rlx_ne (by omega)];exact h.2
theorem bfJ_b (hR:RibOk R) (hx:x<R.L.toNat) (y:Nat):0≤(bfJ R x j).getD y 0∧(bfJ R x j).getD y 0≤6100 :=
 bfX_part hR hx (bfN_all hR (by omega)) bfN_len (fun c hc=>List.mem_of_mem_take hc) y
theorem usJ_mem {k:Int} (h:k ∈ usJ R x j):k ∈ usN R (x+1):=by
 have hm:∀ (l:List (Ct × Int × Int)) (o:List Int) (a:Int),k ∈ o→k ∈ l.foldl (usF R a) o:=fun l o a h=>foldl_inv (I:=fun o:List Int=>k ∈ o) h fun b c _ q=>usF_mem.2 (.inl q)
 have e:usN R (x+1)=((cutL R x).drop j).foldl (usF R ((bfN R x).getD x 0)) (usJ R x j):=by
  unfold usJ
  rw [← List.foldl_append,List.take_append_drop];rfl
 rw [e];exact hm _ _ _ h
theorem usJ_nodup:(usJ R x j).Nodup:=foldl_inv (I:=fun o:List Int=>o.Nodup) usN_nodup fun b c _ h=>usF_nodup h
theorem usJ_small (hR:RibOk R) (hx:x<R.L.toNat):Small (usJ R x j)∧(usJ R x j).length≤6:=by
 have hl:(usJ R x j).length≤6:=by
  have:=pigeon (R:=fun (a:Int) (b:Nat)=>a=(b:Int)) (l:=usJ R x j) (t:=List.range R.W.length) usJ_nodup (fun a ha=>⟨a.toNat,List.mem_range.2 (by have:=usN_b hR (show x+1≤R.L.toNat by omega) (usJ_mem ha);omega),by have:=usN_b hR (show x+1≤R.L.toNat by omega) (usJ_mem ha);omega⟩) (fun a _ c _ b _ h1 h2=>h1.trans h2.symm)
  rw [List.length_range] at this
  have:=hR.nW;omega
 refine ⟨⟨by omega,fun y hy=>?_⟩,hl⟩
 have:=usN_b hR (show x+1≤R.L.toNat by omega) (usJ_mem hy)
 have:=hR.nW;omega
theorem usd_srt (hR:RibOk R):usdL R=srtL (usN R R.L.toNat):=by
 refine srtL_eq ?_ (usdL_rise.imp fun h=>by omega)
 exact (List.perm_ext_iff_of_nodup (usdL_rise.imp fun h=>by omega) usN_nodup).2 fun a=>usdL_mem hR
end
set_option maxRecDepth 100000 in
set_option maxHeartbeats 4000000 in
theorem run_used {base id:Nat} {h:Heap} {R:Rib} (hb:base≤h.length) (hD:DskAt h id R) (hR:RibOk R) :
  Ret prog raw base (.fn 117 [] []) [.ptr (some ⟨id,0,0⟩)] h (fun w H=>Ext h H∧Own encI 3 h.length H w (usdL R)):=by
 have hDe:=fun H (e:Ext h H)=>hD.ext e
 have hm:=fun base=>run_made (base:=base) hD hR
 obtain ⟨fv,wv,gd,hF,hW⟩:=hD
 have hL:=hR.L
 have lid:=lt_of_get gd
 have dL:=fun z=>dsk_ld0 (L:=R.L) (fv:=fv) (wv:=wv) (F:=R.F) (z:=z)
 obtain ⟨V,eV⟩:∃ V,V=mdS R 0:=⟨_,rfl⟩
 have hVl:V.length=61:=by rw [eV,mdS_len]
 have hVat:∀ y,y<61→V.getD y 0=valD R y:=fun y hy=>by rw [eV,mdS_at hy (Nat.zero_le _)]
 rw [← eV] at hm
 obtain ⟨G,eG⟩:∃ G,G=h++[valBk V]++[valBk zer61]++[islB (.slice none 0 0)]:=⟨_,rfl⟩
 have xG:Ext h G:=by rw [eG];exact .app (.app (.app .refl))
 have g0:G[h.length]?=some (valBk V):=by rw [eG];exact get_app (get_app (get_eq rfl))
 have g1:G[h.length+1]?=some (valBk (bfN R 0)):=by rw [eG];exact get_app (get_eq (by simp))
 have g2:G[h.length+2]?=some (islB (.slice none 0 0)):=by rw [eG];exact get_eq (by simp)
 have lG:G.length=h.length+3:=by rw [eG];simp
 have stV:=stV61 (base:=base) (id:=h.length) (H:=h++[valBk zer61]) (l:=V) (m:=zer61) (get_eq rfl) hVl rfl
 rw [set_eq rfl] at stV
 have hLn:R.L=(R.L.toNat:Int):=by omega
 have gdG:=xG.get gd
 unfold valBk zer61 at stV
 unfold valBk zer61 islB at eG
 refine ret_raw func117 rfl (by kernel_rfl) ?_
 have hsp:=@Nat.succ_ne_zero;repeat' (first|simp (disch:=first|exact dqb|fail) only [go_sem,↓reduceIte,hsp,hm,stV,← eG,gd,gdG,dL]|refine WP_drw ?_|refine cnd_intro (fun hsp=>?_) fun hsp=>?_)
 refine WP_count [(6,8),(16,33),(36,77)] 0 R.L.toNat (Nat.zero_le _) (fun _ x fr H=>fr 16=.int .i64 (x:Int)∧Ext h H∧H[h.length]?=some (valBk V)∧H[h.length+1]?=some (valBk (bfN R x))∧∃ ov,H[h.length+2]?=some (islB ov)∧Own encI 3 (h.length+3) H ov (usN R x)) ?_ ?_ ?_
 ·exact ⟨by (simp (disch:=first|exact dqb|fail) only [go_sem,↓reduceIte,Int.natCast_zero];first|done|rfl),xG,g0,g1,_,g2,Own.nil⟩
 ·rintro x fr H hx0 hx hA ⟨r16,xH,gv,gb,ov,go,hO⟩
  have p0:=hA 0 rfl
  have p2:=hA 2 rfl
  have p3:=hA 3 rfl
  have p4:=hA 4 rfl
  have p5:=hA 5 rfl
  have p15:=hA 15 rfl
  try simp (disch:=first|exact dqb|fail) only [go_sem,↓reduceIte] at p0 p2 p3 p4 p5 p15
  have hlt:((x:Int)<R.L)=True:=eq_true (by omega)
  have lgo:=lt_of_get go
  have vall:=bfN_all hR (show x≤R.L.toNat by omega)
  obtain ⟨B,eB⟩:∃ B,B=bfN R x:=⟨_,rfl⟩
  have hBl:B.length=61:=by rw [eB,bfN_len]
  obtain ⟨ax,eax⟩:∃ ax,ax=B.getD x 0:=⟨_,rfl⟩
  obtain ⟨ay,eay⟩:∃ ay,ay=B.getD (x+1) 0:=⟨_,rfl⟩
  rw [← eB] at gb vall
  have vx:=vall x
  have vy:=vall (x+1)
  rw [← eax] at vx
  rw [← eay] at vy
  have ldx:∀ z,ldB (some (false,z)) (some (valBk B)) 0 x=some (.int .i64 ax):=fun z=>by rw [ldB_ints (by omega),eax]
  have ldy:∀ z,ldB (some (false,z)) (some (valBk B)) 0 (x+1)=some (.int .i64 ay):=fun z=>by rw [ldB_ints (by omega),eay]
  have ex1:((x:Int)+1).toNat=x+1:=by omega
  obtain ⟨a,ea⟩:∃ a,a=H.length:=⟨_,rfl⟩
  obtain ⟨Ha,eHa⟩:∃ Ha,Ha=H++[nB (x:Int)]:=⟨_,rfl⟩
  have yHa:Ext H Ha:=by rw [eHa];exact .app .refl
  have ga:Ha[a]?=some (nB (x:Int)):=by rw [eHa];exact get_eq ea
  have lHa:Ha.length=a+1:=by rw [eHa,ea];simp
  obtain ⟨Hb,eHb⟩:∃ Hb,Hb=Ha++[rowB [ax] 0]:=⟨_,rfl⟩
  have yHb:Ext Ha Hb:=by rw [eHb];exact .app .refl
  have lHb:Hb.length=a+2:=by rw [eHb];simp [lHa]
  have hmo:=fun base=>run_most1 (base:=base) (m:=Ha.length) (A:=Ha) (n:=ay) (x:=ax) rfl (by omega)
  rw [← eHb] at hmo
  have gba:=yHa.get gb
  have gbb:=yHb.get gba
  obtain ⟨K0,eK0⟩:∃ K0,K0=rlxL B (x+1) ax:=⟨_,rfl⟩
  have st1:∀ (F:ABlk→Heap),stQ base (h.length+1) (some (valBk B)) 0 (x+1) [.int .i64 (max ay ax)] F=some (F (valBk K0)):=fun F=>by rw [stQ_ints (by omega),eK0,eay];rfl
  obtain ⟨H1,eH1⟩:∃ H1,H1=Hb.set (h.length+1) (valBk K0):=⟨_,rfl⟩
  have l1:H1.length=a+2:=by rw [eH1,List.length_set,lHb]
  have yH:=yHa.trans yHb
  have xH1:Ext h H1:=by rw [eH1];exact (xH.trans yH).set (by omega)
  have nk0:∀ {i:Nat} {z:ABlk},i ≠ h.length+1→H[i]?=some z→H1[i]?=some z:=fun hi hz=>by rw [eH1,List.getElem?_set_ne (fun q=>hi q.symm)];exact yH.get hz
  have gv1:=nk0 (by omega) gv
  have go1:=nk0 (by omega) go
  have gb1:H1[h.length+1]?=some (valBk (bfJ R x 0)):=by
   rw [eH1,List.getElem?_set_self (by omega),eK0,eB,eax,eB];rfl
  have ga1:H1[a]?=some (nB (x:Int)):=by rw [eH1,List.getElem?_set_ne (by omega)];exact yHb.get ga
  have hO1:Own encI 3 (h.length+3) H1 ov (usJ R x 0):=by rw [eH1];exact (hO.ext yH).set (by omega)
  obtain ⟨w3,H3,e3,rfl,eH3⟩:=run_cuts (base:=base) (id:=id) (x:=x) (h:=H1)
  have x3:Ext H1 H3:=by rw [eH3];exact .app (.app .refl)
  have l3:H3.length=H1.length+2:=by rw [eH3];simp
  have gdb:H3[H1.length]?=some (pB id):=by rw [eH3];exact get_app (get_eq rfl)
  have gfb:H3[H1.length+1]?=some (nB (x:Int)):=by rw [eH3];exact get_eq (by simp)
  unfold nB at eHa ga ga1
  unfold valBk at gba gbb ldx ldy st1 eH1
  have hsp:=@Nat.succ_ne_zero;repeat' (first|simp (disch:=first|exact dqb|fail) only [go_sem,↓reduceIte,hsp,r16,p0,p2,p3,p4,p5,p15,hlt,← eHa,ga,← ea,gba,ldx,ldy,ex1,← eHb,hmo,gbb,st1,← eH1,ga1,e3]|refine WP_drw ?_|refine cnd_intro (fun hsp=>?_) fun hsp=>?_)
  refine WP_rangeX (by simp (disch:=first|exact dqb|fail) only [go_sem,↓reduceIte]) (N:=(cutL R x).length) (X:=XC R x) (pr:=prT) (fun j K=>H3.length+1≤K.length∧Ext h K∧K[h.length]?=some (valBk V)∧K[a]?=some (nB (x:Int))∧K[H1.length]?=some (pB id)∧K[H1.length+1]?=some (nB (x:Int))∧K[h.length+1]?=some (valBk (bfJ R x j))∧∃ ov,K[h.length+2]?=some (islB ov)∧Own encI 3 (h.length+3) K ov (usJ R x j)∧Off [H3.length] ov) (fun _ _=>False)
   (cuts_yields (id:=id) (db:=H1.length) (fb:=H1.length+1) (by omega) hR hx (fun j K q=>⟨hDe K q.2.1,q.2.2.2.2.1,q.2.2.2.2.2.1⟩)) ?_ ?_ ?_ ?_ ?_ ?_ ?_ ?_
  ·rintro j d K ⟨c,_,rfl⟩;rfl
  ·rintro j K T ⟨i1,i2,i3,i4,i5,i6,i7,u,i8,i9,i0⟩
   exact ⟨by simp;omega,i2.trans (.app .refl),get_app i3,get_app i4,get_app i5,get_app i6,get_app i7,u,get_app i8,i9.app,i0⟩
  ·rintro j K Z ⟨i1,i2,i3,i4,i5,i6,i7,u,i8,i9,i0⟩
   exact ⟨by simpa using i1,i2.set (by omega),by rw [List.getElem?_set_ne (by omega)];exact i3,by rw [List.getElem?_set_ne (by omega)];exact i4,by rw [List.getElem?_set_ne (by omega)];exact i5,by rw [List.getElem?_set_ne (by omega)];exact i6,by rw [List.getElem?_set_ne (by omega)];exact i7,u,by rw [List.getElem?_set_ne (by omega)];exact i8,i9.setOff i0 (by simp),i0⟩
  ·intro e K Z q;exact q
  ·refine ⟨by simp,(xH1.trans x3).trans (.app .refl),get_app (x3.get gv1),get_app (x3.get ga1),get_app gdb,get_app gfb,get_app (x3.get gb1),ov,get_app (x3.get go1),(hO1.ext x3).app,?_⟩
   intro r n c q hm
   have:=(hO1.lowid) r n c q
   simp at hm;omega
  ·rintro j d K B1 B2 hj ⟨c,hc,rfl⟩ ⟨i1,i2,i3,i4,i5,i6,i7,u,i8,i9,i0⟩ hKl hBB
   have hcl:=cutL_b hR hx (List.mem_of_getElem? hc)
   have hcb:=hcl.1
   have hbs:=bfJ_succ hc
   have hus:=usJ_succ hc
   have hbx:=bfJ_x (j:=j) hR hx
   have hbb:=bfJ_b (j:=j) hR hx
   have hbl:=bfJ_len (R:=R) (x:=x) (j:=j)
   have hsm:=usJ_small (j:=j) hR hx
   rw [← eB,← eax] at hbs hus hbx
   obtain ⟨⟨cw,cf,cj⟩,ce,cp⟩:=c
   dsimp only at hcb hcl
   obtain ⟨e,rfl⟩:=Int.eq_ofNat_of_zero_le (show 0≤ce by omega)
   simp only [Int.toNat_natCast] at hbs
   obtain ⟨M,eM⟩:∃ M,M=bfJ R x j:=⟨_,rfl⟩
   obtain ⟨o,eo⟩:∃ o,o=usJ R x j:=⟨_,rfl⟩
   rw [← eM] at i7 hbs hbx hbb hbl
   rw [← eo] at i9 hus hsm
   have ve:=valD_bd hR (x:=e)
   have v0:=valD_bd hR (x:=0)
   have hbe:=hbb e
   obtain ⟨me,eme⟩:∃ me,me=M.getD e 0:=⟨_,rfl⟩
   rw [← eme] at hbe
   obtain ⟨K1,eK1⟩:∃ K1,K1=K.set H3.length B2:=⟨_,rfl⟩
   have lK1:K1.length=K.length:=by rw [eK1,List.length_set]
   obtain ⟨K2,eK2⟩:∃ K2,K2=K1++[cutB ⟨cw,cf,cj⟩]++[wayB (e:Int) cp]:=⟨_,rfl⟩
   have lK2:K2.length=K.length+2:=by rw [eK2];simp [lK1]
   have y2:Ext K1 K2:=by rw [eK2];exact .app (.app .refl)
   obtain ⟨K3,eK3⟩:∃ K3,K3=K2++[rowB [ax+cp] 0]:=⟨_,rfl⟩
   have lK3:K3.length=K.length+3:=by rw [eK3];simp [lK2]
   have y3:Ext K2 K3:=by rw [eK3];exact .app .refl
   have yy:=y2.trans y3
   have nk1:∀ {i:Nat} {z:ABlk},i ≠ H3.length→K[i]?=some z→K1[i]?=some z:=fun hi hz=>by rw [eK1,List.getElem?_set_ne (fun q=>hi q.symm)];exact hz
   have m4:=y2.get (nk1 (by omega) i4)
   have m7:=y2.get (nk1 (by omega) i7)
   have kc:K2[K.length]?=some (cutB ⟨cw,cf,cj⟩):=by rw [eK2];exact get_app (get_eq lK1.symm)
   have kw:K2[K.length+1]?=some (wayB (e:Int) cp):=by rw [eK2];exact get_eq (by simp [lK1])
   have kb:K1[H3.length]?=some B2:=by rw [eK1,List.getElem?_set_self (by omega)]
   have k7:=y3.get m7
   have ldA:∀ z,ldB (some (false,z)) (some (valBk M)) 0 e=some (.int .i64 me):=fun z=>by rw [ldB_ints (by omega),eme]
   have ldX:∀ z,ldB (some (false,z)) (some (valBk M)) 0 x=some (.int .i64 ax):=fun z=>by rw [ldB_ints (by omega),hbx]
   have hmo2:=fun base=>run_most1 (base:=base) (m:=K2.length) (A:=K2) (n:=me) (x:=ax+cp) rfl (by omega)
   rw [← eK3] at hmo2
   obtain ⟨M',eM'⟩:∃ M',M'=rlxL M e (ax+cp):=⟨_,rfl⟩
   have st2:∀ (F:ABlk→Heap),stQ base (h.length+1) (some (valBk M)) 0 e [.int .i64 (max me (ax+cp))] F=some (F (valBk M')):=fun F=>by rw [stQ_ints (by omega),eM',eme];rfl
   obtain ⟨K4,eK4⟩:∃ K4,K4=K3.set (h.length+1) (valBk M'):=⟨_,rfl⟩
   have lK4:K4.length=K3.length:=by rw [eK4,List.length_set]
   have nk4:∀ {i:Nat} {z:ABlk},i ≠ h.length+1→K3[i]?=some z→K4[i]?=some z:=fun hi hz=>by rw [eK4,List.getElem?_set_ne (fun q=>hi q.symm)];exact hz
   have q7:K4[h.length+1]?=some (valBk M'):=by rw [eK4,List.getElem?_set_self (by omega)]
   have q4:=nk4 (by omega) (y3.get m4)
   have qw:=nk4 (by omega) (y3.get kw)
   have qc:=nk4 (by omega) (y3.get kc)
   have q3:=nk4 (by omega) (yy.get (nk1 (by omega) i3))
   have q8:=nk4 (by omega) (yy.get (nk1 (by omega) i8))
   have qb:=nk4 (by omega) (yy.get kb)
   have q5:=nk4 (by omega) (yy.get (nk1 (by omega) i5))
   have q6:=nk4 (by omega) (yy.get (nk1 (by omega) i6))
   have xK4:Ext h K4:=by rw [eK4];exact Ext.set (Ext.trans (by rw [eK1];exact i2.set (by omega)) yy) (by omega)
   have oK4:Own encI 3 (h.length+3) K4 u o:=by
    rw [eK4];exact Own.set (Own.ext (by rw [eK1];exact i9.setOff i0 (by simp)) yy) (by omega)
   have hM'x:M'.getD x 0=ax:=by rw [eM',rlxL_at (by omega),rlx_ne (by omega)];exact hbx
   have hM'l:M'.length=61:=by rw [eM',rlxL_len];exact hbl
   have ldX2:∀ z,ldB (some (false,z)) (some (valBk M')) 0 x=some (.int .i64 ax):=fun z=>by rw [ldB_ints (by omega),hM'x]
   have ldV:∀ z,ldB (some (false,z)) (some (valBk V)) 0 e=some (.int .i64 (valD R e)):=fun z=>by rw [ldB_ints (by omega),hVat _ (by omega)]
   have ldV0:∀ z,ldB (some (false,z)) (some (valBk V)) 0 0=some (.int .i64 (valD R 0)):=fun z=>by rw [ldB_ints (by omega),hVat _ (by omega)]
   have uone:=oK4.one
   have iO:=own_ints oK4 hsm.1
   have hct:=fun base=>run_contains (base:=base) (x:=cw) iO
   unfold wayB at kw qw
   unfold valBk at ldA ldX st2 eK4 m7 k7 q7 ldX2 ldV ldV0 q3
   unfold nB at m4 q4
   unfold cutB at qc
   unfold cutB wayB at eK2
   unfold islB at q8
   by_cases hu:ax+cp+valD R e=valD R 0
   ·have t1:(ax+cp+valD R e=valD R 0)=True:=eq_true hu
    have hub:useB R ax ((⟨cw,cf,cj⟩:Ct),((e:Int),cp))=true:=by unfold useB;simp only [Int.toNat_natCast];exact decide_eq_true hu
    by_cases hc2:cw ∈ o
    ·rw [decide_eq_true hc2] at hct
     have huo:usJ R x (j+1)=o:=by rw [hus];unfold usF;rw [if_pos hub,if_pos hc2]
     have hsp:=@Nat.succ_ne_zero;repeat' (first|simp (disch:=first|exact dqb|fail) only [go_sem,↓reduceIte,hsp,r16,p0,p2,p3,p4,p5,p15,hBB,← eK1,← eK2,lK1,kw,m7,ldA,m4,ldX,← eK3,hmo2,k7,st2,← eK4,q4,q7,qw,ldX2,q3,ldV,ldV0,t1,q8,qc,hct]|refine WP_drw ?_|refine cnd_intro (fun hsp=>?_) fun hsp=>?_)
     exact ⟨qb,fun i z hi hp hz=>nk4 (by omega) (yy.get (nk1 (by omega) hz)),by omega,.inl ⟨by omega,xK4,q5,q6,by rw [hbs,eM'],u,rfl,by rw [huo];exact oK4,i0⟩⟩
    ·rw [decide_eq_false hc2] at hct
     have huo:usJ R x (j+1)=o++[cw]:=by rw [hus];unfold usF;rw [if_pos hub,if_neg hc2]
     obtain ⟨u',K5,ea5,oK5,l5,ex5,one5,kk5,off5,at5⟩:=oK4.append1Off (i:=H3.length) (y:=cw) (base:=base) i0 (by omega) (by omega) (by omega) (by omega)
     have q85:=KeepO.box (E:=encI) (e:=3) kk5 q8
     have hsp:=@Nat.succ_ne_zero;repeat' (first|simp (disch:=first|exact dqb|fail) only [go_sem,↓reduceIte,hsp,r16,p0,p2,p3,p4,p5,p15,hBB,← eK1,← eK2,lK1,kw,m7,ldA,m4,ldX,← eK3,hmo2,k7,st2,← eK4,q4,q7,qw,ldX2,q3,ldV,ldV0,t1,q8,qc,hct,ea5,q85]|refine WP_drw ?_|refine cnd_intro (fun hsp=>?_) fun hsp=>?_)
     have bx5:∀ {i:Nat} {c:List AVal} {t:TypeId} {ro:Bool} {w:Nat},K4[i]?=some ⟨.cells c t false ro,w⟩→K5[i]?=some ⟨.cells c t false ro,w⟩:=fun q=>KeepO.box (E:=encI) (e:=3) kk5 q
     refine ⟨at5.trans qb,fun i z hi hp hz=>?_,by omega,.inl ⟨by omega,Ext.set (ex5 h (by omega) xK4) (by omega),bx5 q3,bx5 q4,bx5 q5,bx5 q6,by rw [hbs,← eM'];exact bx5 q7,u',rfl,by rw [huo];exact oK5.set (by omega),off5⟩⟩
     rw [List.getElem?_set_ne (by omega)]
     refine kk5 i z (nk4 (by omega) (yy.get (nk1 (by omega) hz))) fun l' ver q=>?_
     rw [show z=tfB from hp] at q
     simp [tfB,rowE] at q
   ·have t1:(ax+cp+valD R e=valD R 0)=False:=eq_false hu
    have huo:usJ R x (j+1)=o:=by rw [hus];unfold usF useB;simp only [Int.toNat_natCast];rw [decide_eq_false hu];rfl
    have hsp:=@Nat.succ_ne_zero;repeat' (first|simp (disch:=first|exact dqb|fail) only [go_sem,↓reduceIte,hsp,r16,p0,p2,p3,p4,p5,p15,hBB,← eK1,← eK2,lK1,kw,m7,ldA,m4,ldX,← eK3,hmo2,k7,st2,← eK4,q4,q7,qw,ldX2,q3,ldV,ldV0,t1]|refine WP_drw ?_|refine cnd_intro (fun hsp=>?_) fun hsp=>?_)
    exact ⟨qb,fun i z hi hp hz=>nk4 (by omega) (yy.get (nk1 (by omega) hz)),by omega,.inl ⟨by omega,xK4,q5,q6,by rw [hbs,eM'],u,q8,by rw [huo];exact oK4,i0⟩⟩
  ·rintro K ⟨i1,i2,i3,i4,i5,i6,i7,u,i8,i9,i0⟩
   rw [bfJ_all] at i7
   rw [usJ_all] at i9
   have hsp:=@Nat.succ_ne_zero;repeat' (first|simp (disch:=first|exact dqb|fail) only [go_sem,↓reduceIte,hsp,r16,p0,p2,p3,p4,p5,p15]|refine WP_drw ?_|refine cnd_intro (fun hsp=>?_) fun hsp=>?_)
   exact ⟨agq,by omega,i2,i3,i7,u,i8,i9⟩
  ·intro e K _ q;exact q.elim
 ·rintro fr H hA ⟨r16,xH,gv,gb,ov,go,hO⟩
  have p0:=hA 0 rfl
  have p2:=hA 2 rfl
  have p3:=hA 3 rfl
  have p4:=hA 4 rfl
  have p5:=hA 5 rfl
  have p15:=hA 15 rfl
  try simp (disch:=first|exact dqb|fail) only [go_sem,↓reduceIte] at p0 p2 p3 p4 p5 p15
  have hlt:(((R.L.toNat:Nat):Int)<R.L)=False:=eq_false (by omega)
  have lgo:=lt_of_get go
  have hsl:=usN_len hR (Nat.le_refl _)
  have uone:=hO.one
  rw [usd_srt hR]
  unfold islB at go
  rcases hO with ⟨rfl,ho⟩|⟨oid,over,rfl,o1,o2,o3⟩
  ·have hs0:=fun base=>run_sort0 (base:=base) (h:=H)
   have e0:srtL (usN R R.L.toNat)=[]:=by rw [ho];simp [srtL]
   have hsp:=@Nat.succ_ne_zero;repeat' (first|simp (disch:=first|exact dqb|fail) only [go_sem,↓reduceIte,hsp,r16,p0,p2,p3,p4,p5,p15,hlt,go,hs0]|refine WP_drw ?_|refine cnd_intro (fun hsp=>?_) fun hsp=>?_)
   exact ⟨xH,by rw [e0];exact Own.nil⟩
  ·have o1':H[oid]?=some (srB (usN R R.L.toNat) 3 over):=by rw [o1,rowE,flat_encI]
   have hs0:=fun base=>run_sort (base:=base) o1' (by omega)
   obtain ⟨H9,eH9⟩:∃ H9,H9=H.set oid (srB (srtL (usN R R.L.toNat)) 3 over):=⟨_,rfl⟩
   rw [← eH9] at hs0
   have go9:H9[h.length+2]?=H[h.length+2]?:=by rw [eH9,List.getElem?_set_ne (by omega)]
   rw [go] at go9
   have hsp:=@Nat.succ_ne_zero;repeat' (first|simp (disch:=first|exact dqb|fail) only [go_sem,↓reduceIte,hsp,r16,p0,p2,p3,p4,p5,p15,hlt,go,hs0,go9]|refine WP_drw ?_|refine cnd_intro (fun hsp=>?_) fun hsp=>?_)
   refine ⟨by rw [eH9];exact xH.set (by omega),.inr ⟨oid,over,by rw [srtL_len],?_,by omega,by rw [srtL_len];exact o3⟩⟩
   rw [eH9,List.getElem?_set_self (lt_of_get o1),rowE,flat_encI]
end Go.AM
