/-
  Contracts: what moves make of an order, or the errors.
-/
import Derived.Test.YteanoaejoddnbaaU16
import Derived.Test.YteanoaejoddnbaaU12
import Derived.Test.YteanoaejoddnbaaU15
import Derived.Test.YteanoaejoddnbaaU14
import Derived.Test.YteanoaejoddnbaaU13
import Derived.Test.YteanoaejoddnbaaU11
import Derived.Test.YteanoaejoddnbaaU0
import Derived.Shelf.Spec.SlicesInsert
import Derived.Shelf.Spec.SlicesInsertGrow
set_option linter.unusedSimpArgs false
set_option linter.unusedVariables false
namespace Go.AM
open Go.Proofs.Try
attribute [-go_sem] put_ne put_same
attribute [local go_sem ↓] put_if
def makE (o:List Int) (ms:List (Int × Int)):List Int × Int:=if aloL o=0 then makF o.length ms o else ([],aloL o)
theorem perm_small' {l m:List Int} (h:l.Perm m) (hs:Small m):Small l:=⟨by rw [h.length_eq];exact hs.1,fun x hx=>hs.2 x (h.mem_iff.1 hx)⟩
set_option maxHeartbeats 2000000 in
theorem run_Make {base:Nat} {h:Heap} {v mv:AVal} {o:List Int} {ms:List (Int × Int)} (hb:base≤h.length) (hI:Ints h v o) (hM:Rows encM h mv ms) (hml:ms.length≤100000) :
  Ret prog raw base (.fn 26 [] []) [v,mv] h (fun w H=>Ext h H∧∃ x,w=.tuple [x,.int .i64 (makE o ms).2]∧OwnE encI 3 h.length H x (makE o ms).1):=by
 have ha:=fun base=>run_alone (base:=base) hI
 have hv1:=hI.one
 have hm1:=hM.one
 by_cases c:aloL o=0
 ·obtain ⟨c1,c2,c3⟩:=aloL_iff.1 c
  rw [c] at ha
  have hsm:=small_ints hI (by omega)
  obtain ⟨n,en⟩:∃ n,n=o.length:=⟨_,rfl⟩
  have r:makE o ms=makF n ms o:=by unfold makE;rw [if_pos c,en]
  rw [r]
  obtain ⟨v1,H1,e1,x1,o1⟩:=run_cloneE (base:=base) hI hsm
  have hl1:=x1.len
  have ov1:=o1.one
  have hlm:=(hM.ext x1).len (P:=prog) Fc.el33
  refine ret_raw func26 rfl (by kernel_rfl) ?_
  have hsp:=@Nat.succ_ne_zero;repeat' (first|simp (disch:=first|exact dqb|fail) only [go_sem,↓reduceIte,hsp,ha,eq_self,e1,hlm]|refine WP_drw ?_|refine cnd_intro (fun hsp=>?_) fun hsp=>?_)
  refine WP_count [(4,9),(19,42)] 0 ms.length (Nat.zero_le _) (fun _ i fr K=>fr 19=.int .i64 (i:Int)∧Ext h K∧∃ o' w,fr 7=w∧OwnE encI 3 h.length K w o'∧o'.Perm o∧makF n ms o=makF n (ms.drop i) o') ?_ ?_ ?_
  ·exact ⟨by (simp (disch:=first|exact dqb|fail) only [go_sem,↓reduceIte,Int.natCast_zero];first|done|rfl),x1,o,v1,by simp (disch:=first|exact dqb|fail) only [go_sem,↓reduceIte],o1,.refl _,rfl⟩
  ·rintro i fr K hi0 hi hA ⟨r19,xK,o',w,r7,hO,hp,hF⟩
   have p17:=hA 17 rfl
   have p18:=hA 18 rfl
   try simp (disch:=first|exact dqb|fail) only [go_sem,↓reduceIte] at p17 p18
   have hlt:((i:Int)<(ms.length:Int))=True:=eq_true (by omega)
   obtain ⟨⟨a,b⟩,em⟩:∃ m,ms[i]=m:=⟨_,rfl⟩
   have hx:ms[i]?=some (a,b):=by rw [List.getElem?_eq_getElem hi,em]
   have hMK:=hM.ext xK
   have ad:=hMK.addr (P:=prog) (i:=(i:Int)) Fc.el33 Fc.ar33 (by omega) (by omega)
   rw [Int.toNat_natCast] at ad
   have ld:=hMK.load (P:=prog) Fc.ty36 hx
   simp only [encM] at ad ld
   have hw1:=hO.one
   have hKl:=xK.len
   have hol:o'.length=n:=by rw [hp.length_eq,en]
   obtain ⟨G,eG⟩:∃ G,G=K++[mvB a b]:=⟨_,rfl⟩
   have xG:Ext K G:=by rw [eG];exact .app .refl
   have gG:G[K.length]?=some (mvB a b):=by rw [eG];exact get_eq rfl
   have hGl:=xG.len
   have iG:=(ownE_ints hO (perm_small' hp hsm)).ext xG
   have lG:=lenI iG
   have hst:makF n (ms.drop i) o'=if (0≤a∧a<(n:Int))∧(0≤b∧b<(n:Int)) then makF n (ms.drop (i+1)) (mvL o' a.toNat b.toNat) else ([],1):=by
    rw [List.drop_eq_getElem_cons hi,em,makF]
   unfold mvB at eG gG
   by_cases q1:0≤a∧a<(n:Int)
   ·have t1:decide (0≤a∧a≤(o'.length:Int)-1)=true:=decide_eq_true (by omega)
    by_cases q2:0≤b∧b<(n:Int)
    ·have t2:decide (0≤b∧b≤(o'.length:Int)-1)=true:=decide_eq_true (by omega)
     rw [if_pos ⟨q1,q2⟩] at hst
     obtain ⟨a',rfl⟩:=Int.eq_ofNat_of_zero_le q1.1
     obtain ⟨b',rfl⟩:=Int.eq_ofNat_of_zero_le q2.1
     rw [Int.toNat_natCast,Int.toNat_natCast] at hst
     obtain ⟨w2,H2,e2,x2,o2⟩:=run_made (base:=base) (f:=a') (t:=b') (by omega) iG (by omega) (by omega) (by omega)
     have ow2:=o2.one
     have hsp:=@Nat.succ_ne_zero;repeat' (first|simp (disch:=first|exact dqb|fail) only [go_sem,↓reduceIte,hsp,r19,r7,p17,p18,hlt,ad,ld,← eG,gG,lG,t1,t2,e2]|refine WP_drw ?_|refine cnd_intro (fun hsp=>?_) fun hsp=>?_)
     refine ⟨agq,by omega,xK.trans (xG.trans x2),_,w2,rfl,OwnE.low (b':=h.length) (.inl o2) (by omega),(mvL_perm (by omega) (by omega)).trans hp,by rw [hF,hst]⟩
    ·have t2:decide (0≤b∧b≤(o'.length:Int)-1)=false:=decide_eq_false (by omega)
     rw [if_neg (fun q=>q2 q.2)] at hst
     have hsp:=@Nat.succ_ne_zero;repeat' (first|simp (disch:=first|exact dqb|fail) only [go_sem,↓reduceIte,hsp,r19,r7,p17,p18,hlt,ad,ld,← eG,gG,lG,t1,t2]|refine WP_drw ?_|refine cnd_intro (fun hsp=>?_) fun hsp=>?_)
     exact ⟨xK.trans xG,_,by rw [hF,hst],by rw [hF,hst];exact .inl Own.nil⟩
   ·have t1:decide (0≤a∧a≤(o'.length:Int)-1)=false:=decide_eq_false (by omega)
    rw [if_neg (fun q=>q1 q.1)] at hst
    have hsp:=@Nat.succ_ne_zero;repeat' (first|simp (disch:=first|exact dqb|fail) only [go_sem,↓reduceIte,hsp,r19,r7,p17,p18,hlt,ad,ld,← eG,gG,lG,t1]|refine WP_drw ?_|refine cnd_intro (fun hsp=>?_) fun hsp=>?_)
    exact ⟨xK.trans xG,_,by rw [hF,hst],by rw [hF,hst];exact .inl Own.nil⟩
  ·rintro fr K hA ⟨r19,xK,o',w,r7,hO,hp,hF⟩
   have p17:=hA 17 rfl
   have p18:=hA 18 rfl
   try simp (disch:=first|exact dqb|fail) only [go_sem,↓reduceIte] at p17 p18
   have hlt:((ms.length:Int)<(ms.length:Int))=False:=eq_false (by omega)
   have hw1:=hO.one
   rw [List.drop_length,makF] at hF
   have hsp:=@Nat.succ_ne_zero;repeat' (first|simp (disch:=first|exact dqb|fail) only [go_sem,↓reduceIte,hsp,r19,r7,p17,p18,hlt]|refine WP_drw ?_|refine cnd_intro (fun hsp=>?_) fun hsp=>?_)
   exact ⟨xK,_,by rw [hF],by rw [hF];exact hO⟩
 ·have t1:(aloL o=0)=False:=eq_false c
  have r:makE o ms=([],aloL o):=by unfold makE;rw [if_neg c]
  rw [r]
  refine ret_raw func26 rfl (by kernel_rfl) ?_
  have hsp:=@Nat.succ_ne_zero;repeat' (first|simp (disch:=first|exact dqb|fail) only [go_sem,↓reduceIte,hsp,ha,t1]|refine WP_drw ?_|refine cnd_intro (fun hsp=>?_) fun hsp=>?_)
  exact ⟨.refl,_,rfl,.inl Own.nil⟩
end Go.AM
namespace Go.AM
open Go.Proofs.Try
attribute [-go_sem] put_ne put_same
attribute [local go_sem ↓] put_if
end Go.AM
namespace Go.AM
end Go.AM
namespace Go.AM
open Go.Proofs.Try
attribute [-go_sem] put_ne put_same
attribute [local go_sem ↓] put_if
def wvL (L:Lac) (o:List Int) (n:Nat):List Int:=lst (fun t=>L.C.getD (o.getD (t % o.length) 0).toNat 0) n
def wvE (L:Lac) (o:List Int) (n:Int):List Int × Int:=if lcdE L o=0 then (if 0≤n∧n≤999 then (wvL L o n.toNat,0) else ([],3)) else ([],lcdE L o)
def trdE (L:Lac) (o ring:List Int):List Int × Int :=
 if lcdE L o ≠ 0 then ([],lcdE L o) else if ring.length<2 then ([],2) else if ¬ (ring.all fun x=>decide (0≤x∧x≤(L.C.length:Int)-1))=true then ([],1) else if twB ring=true then ([],5) else
 if (xplD L o o.length && xplD L (trnL o ring) o.length)=true then (trnL o ring,0) else ([],8)
end Go.AM
namespace Go.AM
open Go.Proofs.Try
attribute [-go_sem] put_ne put_same
attribute [local go_sem ↓] put_if
def IsRing (L:Lac) (l:List Int):Prop:=∃ o1 o2 a r,(fnd L)[0]?=some o1∧(fnd L)[1]?=some o2∧a<L.C.length∧o1.getD a 0 ≠ o2.getD a 0∧0<r∧itr o1 o2 a r=a∧(∀ i,0<i→i<r→itr o1 o2 a i ≠ a)∧l=rngL o1 o2 a r
def rngE (L:Lac):Int:=if (fndE L).2=0 then (if (fnd L).length=1 then 6 else 0) else (fndE L).2
end Go.AM
namespace Go.AM
open Go.Proofs.Try
section
variable {α:Type} {E:Enc α} {P:Program} {base:Nat} {h:Heap} {v:AVal} {l:List α} {t e:TypeId} {zs:List AVal}
end
end Go.AM
namespace Go.AM
open Go.Proofs.Try
attribute [-go_sem] put_ne put_same
attribute [local go_sem ↓] put_if
end Go.AM
namespace Go.AM
open Go.Proofs.Try
attribute [-go_sem] put_ne put_same
attribute [local go_sem ↓] put_if
def moreR (L:Lac) (r:Rw3):Lac:=⟨L.T,L.C,L.R++[r]⟩
def lac0:Lac:=⟨0,[],[]⟩
def seeE (L:Lac) (r:Rw3):Lac × Int:=if chkL L=0 then (if L.R.length=12 then (lac0,9) else if chkL (moreR L r)=0 then (moreR L r,0) else (lac0,chkL (moreR L r))) else (lac0,chkL L)
def OwnC (b:Nat) (H:Heap) (v:AVal) (L:Lac):Prop:=∃ cv rv,v=.agg [.int .i64 L.T,cv,rv]∧OwnE encI 3 b H cv L.C∧OwnE encR 70 b H rv L.R
end Go.AM
namespace Go.AM
open Go.Proofs.Try
attribute [-go_sem] put_ne put_same
attribute [local go_sem ↓] put_if
end Go.AM
namespace Go.AM
open Go.Proofs.Try
attribute [-go_sem] put_ne put_same
attribute [local go_sem ↓] put_if
theorem bsM1 {lit:Bool} {H:Heap} {a b:Int}:bsA prog lit H 33 1 [(0,.agg [.int .i64 a,.int .i64 b])]=some (.slice (some ⟨H.length,0,0⟩) 1 1,H++[rowE encM 36 [(a,b)] 0]):=by
 simp [bsA,rowOf,Fc.el33,fillA,repCells,AVal.isN,AVal.cells,splice,rowE,flat,encM]
def mndE (o:List Int):List (Int × Int) × Int:=if aloL o=0 then (mndL o,0) else ([],aloL o)
theorem mndN_succ {s:MndS} {k:Nat}:mndN s (k+1)=mndS (mndN s k) (k:Int):=rfl
end Go.AM
namespace Go.AM
open Go.Proofs.Try
attribute [-go_sem] put_ne put_same
attribute [local go_sem ↓] put_if
structure PilAt (b:Nat) (H:Heap) (u:AVal) (vs:List AVal) (ps:List (List Int)):Prop where
 own:Own encZ 25 b H u vs
 len:vs.length=ps.length
 el:∀ (i:Nat) x t,vs[i]?=some x→ps[i]?=some t→Own encI 3 b H x t
 apart:∀ (i j:Nat) x y,i ≠ j→vs[i]?=some x→vs[j]?=some y→Asun x y
end Go.AM
namespace Go.AM
open Go.Proofs.Try
attribute [-go_sem] put_ne put_same
attribute [local go_sem ↓] put_if
def pilE (o:List Int):List (List Int) × Int:=if aloL o=0 then (pilN o o.length,0) else ([],aloL o)
end Go.AM
namespace Go.AM
open Go.Proofs.Try
attribute [-go_sem] put_ne put_same
attribute [local go_sem ↓] put_if
end Go.AM
namespace Go.AM
open Go.Proofs.Try
attribute [-go_sem] put_ne put_same
attribute [local go_sem ↓] put_if
def badAt (o pile:List Int) (i:Nat):Bool :=
 !decide (0≤pile.getD i 0∧pile.getD i 0≤(o.length:Int)-1) || (decide (0<i) && (decide (pile.getD i 0≤pile.getD (i-1) 0) || decide (o.getD (pile.getD i 0).toNat 0 ≥ o.getD (pile.getD (i-1) 0).toNat 0)))
def pilB (o pile:List Int):Bool:=decide (pile ≠ []) && (List.range pile.length).all fun i=>!badAt o pile i
theorem pilB_ok {o pile:List Int} (h0:pile ≠ []) (h:∀ i,i<pile.length→badAt o pile i=false):pilB o pile=true:=by
 unfold pilB
 rw [decide_eq_true h0,Bool.true_and,List.all_eq_true]
 intro i hi
 rw [h i (List.mem_range.1 hi)];rfl
def shwE (o:List Int) (ps:List (List Int)):Int × Int :=
 if aloL o ≠ 0 then (0,aloL o) else if ps.all (pilB o)=false then (0,8) else if ps.flatten.length ≠ o.length ∨ twB ps.flatten=true then (0,8) else ((ps.length:Int),0)
end Go.AM
namespace Go.AM
theorem pair_at {α:Type} {R:α→α→Prop} {l:List α} (h:l.Pairwise R) {i j:Nat} (hij:i<j) (hj:j<l.length):R (l[i]'(by omega)) l[j]:=List.pairwise_iff_getElem.1 h i j (by omega) hj hij
theorem pils_ok {o:List Int} {ps:List (List Int)} (h:Pils o o.length ps):ps.all (pilB o)=true:=by
 rw [List.all_eq_true]
 intro x hx
 have hmem:∀ y ∈ x,0≤y∧y<(o.length:Int):=fun y hy=>upto_mem.1 (h.all.mem_iff.1 (List.mem_flatten.2 ⟨x,hx,hy⟩))
 refine pilB_ok (h.ne x hx) fun i hi=>?_
 have h1:=hmem _ (getD_mem hi)
 unfold badAt
 rw [decide_eq_true (by omega:0≤x.getD i 0∧x.getD i 0≤(o.length:Int)-1)]
 by_cases hp:0<i
 ·have h2:=pair_at (h.dn x hx) (i:=i-1) (j:=i) (by omega) hi
  unfold PilR at h2
  rw [← getD_at (d:=0) hi,← getD_at (d:=0) (show i-1<x.length by omega)] at h2
  rw [decide_eq_true hp,decide_eq_false (by omega),decide_eq_false (by omega)]
  rfl
 ·rw [decide_eq_false hp];rfl
theorem upto_nd (n:Nat):(upto n).Nodup:=(upto_sorted n).imp fun h=>by omega
theorem shwE_pils {o:List Int} {ps:List (List Int)} (hc:aloL o=0) (h:Pils o o.length ps):shwE o ps=((ps.length:Int),0):=by
 unfold shwE
 rw [if_neg (by simp [hc]),if_neg (by rw [pils_ok h];simp),if_neg]
 intro q
 rcases q with q|q
 ·exact q (by rw [h.all.length_eq,upto_len])
 ·have:=of_decide_eq_true (show decide (¬ ps.flatten.Nodup)=true from q)
  exact this (h.all.nodup_iff.2 (upto_nd _))
theorem ord_dist {n:Nat} {o:List Int} (h:Ord n o):∀ i j,i<j→j<o.length→o.getD i 0 ≠ o.getD j 0:=fun i j hij hj e=>by
 have:=ord_inj h (by have:=h.1;omega) (by have:=h.1;omega) e
 omega
theorem ord_all5 {n:Nat} {o:List Int} (hn:1≤n∧n≤7) (h:Ord n o) :
  aloL o=0∧risE o=(riseL o,0)∧pilE o=(pilN o o.length,0)∧shwE o (pilN o o.length)=(((riseL o).length:Int),0)∧(pilN o o.length).length=(riseL o).length∧mndE o=(mndL o,0)∧makE o (mndL o)=(upto n,0)∧(mndL o).length+(riseL o).length=n:=by
 have ha:aloL o=0:=aloL_iff.2 ⟨by have:=h.1;omega,by have:=h.1;omega,by rw [h.1];exact h⟩
 have hp:=pilN_ok (ord_dist h) (Nat.le_refl _)
 have hl:=piles_rise hp (riseL_is o)
 obtain ⟨m1,m2,m3⟩:=mndL_ok h
 refine ⟨ha,by unfold risE;rw [if_pos ha],by unfold pilE;rw [if_pos ha],by rw [shwE_pils ha hp,hl],hl,by unfold mndE;rw [if_pos ha],by unfold makE;rw [if_pos ha,h.1,m1],m3⟩
end Go.AM
namespace Go.AM
open Go.Proofs.Try
attribute [-go_sem] put_ne put_same
attribute [local go_sem ↓] put_if
def looks (L:Lac) (real ps:List Int):List Rw3:=ps.map fun p=>(p,2 ^ L.T.toNat-1,L.C.getD (real.getD p.toNat 0).toNat 0)
def shwL (L:Lac) (real ps:List Int):Lac:=⟨L.T,L.C,L.R++looks L real ps⟩
end Go.AM
namespace Go.AM
open Go.Proofs.Try
end Go.AM
namespace Go.AM
open Go.Proofs.Try
attribute [-go_sem] put_ne put_same
attribute [local go_sem ↓] put_if
structure SeenOk (T:Int) (C o:List Int) (r:Rw3):Prop where
 t:0≤r.1∧r.1≤60
 m:0≤r.2.1∧r.2.1≤2 ^ T.toNat-1
 s:0≤r.2.2
 is:(C.getD (o.getD (r.1.toNat % C.length) 0).toNat 0).toNat &&& r.2.1.toNat=r.2.2.toNat
end Go.AM
namespace Go.AM
end Go.AM
namespace Go.AM
open Go.Proofs.Try
attribute [-go_sem] put_ne put_same
attribute [local go_sem ↓] put_if
def cntK (os:List (List Int)) (p n i:Nat):List Int:=lst (fun k=>(((os.take i).countP fun o=>decide (o.getD p 0=(k:Int)):Nat):Int)) n
theorem cntK_len {os:List (List Int)} {p n i:Nat}:(cntK os p n i).length=n:=lst_len
theorem cntK_step {os:List (List Int)} {p n i c:Nat} {o:List Int} (ho:os[i]?=some o) (hc:o.getD p 0=(c:Int)) (hn:c<n):(cntK os p n i).set c ((cntK os p n i).getD c 0+1)=cntK os p n (i+1):=by
 unfold cntK
 rw [lst_get hn,lst_set hn]
 refine lst_congr fun k hk=>?_
 rw [List.take_add_one,ho,List.countP_append]
 by_cases e:k=c
 ·subst e
  rw [if_pos rfl,show List.countP (fun o=>decide (o.getD p 0=(k:Int))) (some o).toList=1 from List.countP_cons_of_pos (decide_eq_true hc)]
  omega
 ·rw [if_neg e,show List.countP (fun o=>decide (o.getD p 0=(k:Int))) (some o).toList=0 from List.countP_cons_of_neg (by rw [decide_eq_true_eq,hc];omega)]
  omega
theorem cntK_bd {os:List (List Int)} {p n i k:Nat} (hk:k<n):0≤(cntK os p n i).getD k 0∧(cntK os p n i).getD k 0≤(os.length:Int):=by
 unfold cntK
 rw [lst_get hk]
 have h1:(os.take i).countP (fun o=>decide (o.getD p 0=(k:Int)))≤(os.take i).length:=List.countP_le_length
 have h2:(os.take i).length≤os.length:=List.length_take_le' ..
 omega
theorem cntK_zero {os:List (List Int)} {p n:Nat}:cntK os p n 0=List.replicate n 0:=by
 refine lst_ext (by rw [cntK_len,List.length_replicate]) fun i hi=>?_
 rw [cntK_len] at hi
 unfold cntK
 rw [lst_get hi,List.take_zero,List.getD_eq_getElem?_getD,List.getElem?_replicate,if_pos hi]
 rfl
theorem cntK_all {os:List (List Int)} {p n:Nat}:grt (cntK os p n os.length)=lvsN n os p:=by
 unfold cntK lvsN
 rw [List.take_length]
set_option maxHeartbeats 1000000 in
theorem run_lvs {base a b id p bb:Nat} {h:Heap} {x:AVal} {L:Lac} {os:List (List Int)} (ga:h[a]?=some (pB id)) (gb:h[b]?=some (lsB x)) (hD:DskAt h id L) (hn:1≤L.C.length∧L.C.length≤7) (hA:AllI bb h x os) (hl:os.length≤823543) (ho:∀ o ∈ os,Ord L.C.length o) (hp:p<L.C.length) :
  callL prog raw base (.fn 129 [] [.ptr (some ⟨a,0,0⟩),.ptr (some ⟨b,0,0⟩)]) [.int .i64 (p:Int)] h=some (.int .i64 (lvsN L.C.length os p),h):=by
 obtain ⟨cv,rv,hg,hC,-⟩:=hD
 have la:=lt_of_get ga
 have lb:=lt_of_get gb
 have lid:=lt_of_get hg
 have ox:=hA.one
 have lc:=ld_cards hg
 have hlc:=lenI hC
 obtain ⟨G,eG⟩:∃ G,G=h++[srB (cntK os p L.C.length 0) 3 0]:=⟨_,rfl⟩
 have mk:makeSliceA prog h 25 (.int .i64 (L.C.length:Int)) (.int .i64 (L.C.length:Int))=some (.slice (some ⟨h.length,0,0⟩) L.C.length L.C.length,G):=by
  rw [make_full Fc.el25 (by omega) (by omega),rep_zero,eG,cntK_zero]
 have xG:Ext h G:=by rw [eG];exact .app .refl
 have gbG:=xG.get gb
 have hlx:=(hA.ext xG).len (by omega)
 unfold pB at ga
 unfold lsB at gb gbG
 refine callL_run func129 rfl rfl ?_
 have hsp:=@Nat.succ_ne_zero;repeat' (first|simp (disch:=first|exact dqb|fail) only [go_sem,↓reduceIte,hsp,ga,lc,hlc,mk,gbG,hlx]|refine WP_drw ?_|refine cnd_intro (fun hsp=>?_) fun hsp=>?_)
 refine WP_count [(7,7),(17,30)] 0 os.length (Nat.zero_le _) (fun _ i fr H=>fr 17=.int .i64 (i:Int)∧H=h++[srB (cntK os p L.C.length i) 3 0]) ?_ ?_ ?_
 ·exact ⟨by (simp (disch:=first|exact dqb|fail) only [go_sem,↓reduceIte,Int.natCast_zero];first|done|rfl),eG⟩
 ·rintro i fr H hi0 hi hA2 ⟨r17,eH⟩
  have q0:=hA2 0 rfl
  have q4:=hA2 4 rfl
  have q5:=hA2 5 rfl
  have q15:=hA2 15 rfl
  have q16:=hA2 16 rfl
  try simp (disch:=first|exact dqb|fail) only [go_sem,↓reduceIte] at q0 q4 q5 q15 q16
  have hlt:((i:Int)<(os.length:Int))=True:=eq_true (by omega)
  obtain ⟨o,eo⟩:∃ o,o=os[i]:=⟨_,rfl⟩
  have hoi:os[i]?=some o:=by rw [eo];exact List.getElem?_eq_getElem hi
  have hoo:=ho o (List.mem_of_getElem? hoi)
  have xH:Ext h H:=by rw [eH];exact .app .refl
  have gH:H[h.length]?=some (srB (cntK os p L.C.length i) 3 0):=by rw [eH];exact get_eq rfl
  obtain ⟨ea,w,ad,ld,ow⟩:=hA.at (by omega) hoi
  have ld0:=ld H xH
  have oww:=ow.one
  have iw:=ownE_ints (ow.ext xH) (ord_small hoo (by omega))
  have hpo:p<o.length:=by rw [hoo.1];exact hp
  have ap:=adrI (i:=(p:Int)) (by omega) iw (by omega)
  rw [Int.toNat_natCast] at ap
  have lp:=loadI iw hpo
  have hr:=hoo.2.1 _ (getD_mem hpo)
  obtain ⟨c,ec⟩:=Int.eq_ofNat_of_zero_le hr.1
  rw [ec] at lp
  have hcn:c<L.C.length:=by omega
  have hcl:=cntK_len (os:=os) (p:=p) (n:=L.C.length) (i:=i)
  have hbd:=cntK_bd (os:=os) (p:=p) (i:=i) hcn
  have ac:indexAddrA prog 25 (.slice (some ⟨h.length,0,0⟩) L.C.length L.C.length) (.int .i64 (c:Int))=some (.ptr (some ⟨h.length,0,c⟩)):=by
   rw [adr_sl Fc.el25 Fc.ar25 (by omega) (by omega),Int.toNat_natCast,Nat.mul_one,Nat.zero_add]
  obtain ⟨m,em⟩:∃ m,m=(cntK os p L.C.length i).getD c 0:=⟨_,rfl⟩
  have d1:loadP prog H 3 (.ptr (some ⟨h.length,0,c⟩))=some (.int .i64 m):=by
   rw [load_eq,Fc.ty3,gH,em];exact ldB_ints (by omega)
  have hst:∀ {F:ABlk→Heap},stQ base h.length (some (srB (cntK os p L.C.length i) 3 0)) 0 c [.int .i64 (m+1)] F=some (F (srB (cntK os p L.C.length (i+1)) 3 0)):=fun {F}=>by
   rw [stQ_ints (by omega),em,cntK_step hoi ec hcn]
  have hst2:∀ {F:ABlk→Heap},stQ h.length h.length (some (srB (cntK os p L.C.length i) 3 0)) 0 c [.int .i64 (m+1)] F=some (F (srB (cntK os p L.C.length (i+1)) 3 0)):=fun {F}=>by
   rw [stQ_ints (by omega),em,cntK_step hoi ec hcn]
  have hset:H.set h.length (srB (cntK os p L.C.length (i+1)) 3 0)=h++[srB (cntK os p L.C.length (i+1)) 3 0]:=by
   rw [eH,List.set_append_right _ _ (Nat.le_refl _),Nat.sub_self];rfl
  have hmb:0≤m∧m≤823543:=by omega
  have hsp:=@Nat.succ_ne_zero;repeat' (first|simp (disch:=first|exact dqb|fail) only [go_sem,↓reduceIte,hsp,r17,q0,q4,q5,q15,q16,hlt,ad,ld0,ap,lp,ac,d1,gH,hst2]|refine WP_drw ?_|refine cnd_intro (fun hsp=>?_) fun hsp=>?_)
  exact ⟨agq,by omega,hset⟩
 ·rintro fr H hA2 ⟨r17,eH⟩
  have q0:=hA2 0 rfl
  have q4:=hA2 4 rfl
  have q5:=hA2 5 rfl
  have q15:=hA2 15 rfl
  have q16:=hA2 16 rfl
  try simp (disch:=first|exact dqb|fail) only [go_sem,↓reduceIte] at q0 q4 q5 q15 q16
  have hlt:((os.length:Int)<(os.length:Int))=False:=eq_false (by omega)
  have gH:H[h.length]?=some (srB (cntK os p L.C.length os.length) 3 0):=by rw [eH];exact get_eq rfl
  have hs:Small (cntK os p L.C.length os.length):=⟨by rw [cntK_len];omega,fun y hy=>by
   obtain ⟨k,hk,e⟩:=List.mem_iff_getElem.1 hy
   rw [cntK_len] at hk
   have:=cntK_bd (os:=os) (p:=p) (i:=os.length) hk
   rw [getD_at (by rw [cntK_len];exact hk),e] at this
   omega⟩
  have hI:Ints H (.slice (some ⟨h.length,0,0⟩) L.C.length L.C.length) (cntK os p L.C.length os.length):=by
   rw [eH];exact slice_row rfl (by rw [cntK_len]) hs
  have hgr:=fun base=>run_greatest (base:=base) hI
  rw [cntK_all] at hgr
  have hsp:=@Nat.succ_ne_zero;repeat' (first|simp (disch:=first|exact dqb|fail) only [go_sem,↓reduceIte,hsp,r17,q0,q4,q5,q15,q16,hlt,hgr]|refine WP_drw ?_|refine cnd_intro (fun hsp=>?_) fun hsp=>?_)
  exact fI rfl (by rw [eH];exact .app .refl)
def askE (L:Lac):Int × Int × Int:=if (fndE L).2=0 then ((askN L.C.length (fnd L) L.C.length).1,(askN L.C.length (fnd L) L.C.length).2,0) else (0,0,(fndE L).2)
end Go.AM
namespace Go.AM
open Go.Proofs.Try
attribute [-go_sem] put_ne put_same
attribute [local go_sem ↓] put_if
theorem grt_le {l:List Int} {B:Int} (hB:0≤B) (h:∀ x ∈ l,x≤B):0≤grt l∧grt l≤B:=by
 refine ⟨grt_ge.1,?_⟩
 unfold grt
 rcases grt_is (l:=l) (a:=0) with q|q
 ·omega
 ·exact h _ q
theorem lvsN_bd {n:Nat} {os:List (List Int)} {p:Nat} (hl:os.length≤823543):0≤lvsN n os p∧lvsN n os p≤1000000:=by
 unfold lvsN
 refine grt_le (by omega) fun x hx=>?_
 obtain ⟨k,hk,e⟩:=List.mem_iff_getElem.1 hx
 rw [lst_len] at hk
 have:(lst (fun k=>((os.countP fun o=>decide (o.getD p 0=(k:Int)):Nat):Int)) n).getD k 0=x:=by rw [getD_at (by rw [lst_len];exact hk),e]
 rw [lst_get hk] at this
 have h2:os.countP (fun o=>decide (o.getD p 0=(k:Int)))≤os.length:=List.countP_le_length
 omega
abbrev lkB (g:AVal):ABlk:=⟨.cells [g] 155 false false,0⟩
set_option maxRecDepth 100000 in
set_option maxHeartbeats 2000000 in
theorem run_Ask {base:Nat} {h:Heap} {v:AVal} {L:Lac} (hL:LacAt h v L) :
  callL prog raw base (.fn 61 [] []) [v] h=some (.tuple [.int .i64 (askE L).1,.int .i64 (askE L).2.1,.int .i64 (askE L).2.2],h):=by
 have hL0:=hL
 obtain ⟨cv,rv,rfl,hC,hR⟩:=hL
 have o1:=hC.one
 have o2:=hR.one
 obtain ⟨G0,eG0⟩:∃ G0,G0=h++[lacB L.T cv rv]:=⟨_,rfl⟩
 have x0:Ext h G0:=by rw [eG0];exact .app .refl
 have g0:G0[h.length]?=some (lacB L.T cv rv):=by rw [eG0];exact get_eq rfl
 have l0:G0.length=h.length+1:=by rw [eG0];simp
 obtain ⟨w1,H1,e1,x1,a,x,rfl,oa,hA,hD⟩:=run_found (base:=h.length) (h:=G0) (by omega) (hL0.ext x0)
 have ox:=hA.one
 have l1:=x1.len
 obtain ⟨H2,eH2⟩:∃ H2,H2=H1++[(⟨.cells [a] 132 false false,0⟩:ABlk)]:=⟨_,rfl⟩
 obtain ⟨H3,eH3⟩:∃ H3,H3=H2++[lsB x]:=⟨_,rfl⟩
 have x2:Ext H1 H2:=by rw [eH2];exact .app .refl
 have x3:Ext H2 H3:=by rw [eH3];exact .app .refl
 have l2:H2.length=H1.length+1:=by rw [eH2];simp
 have l3:H3.length=H1.length+2:=by rw [eH3];simp [l2]
 have ga:H3[H1.length]?=some ⟨.cells [a] 132 false false,0⟩:=x3.get (by rw [eH2];exact get_eq rfl)
 have gb:H3[H1.length+1]?=some (lsB x):=by rw [eH3];exact get_eq l2.symm
 have xh3:=((x0.trans x1).trans x2).trans x3
 unfold lacB at eG0 g0
 have eH3':=eH3
 unfold lsB at eH3'
 refine callL_run func61 rfl rfl ?_
 by_cases c:(fndE L).2=0
 ·obtain ⟨c1,c2,c3⟩:=fndE_ok c
  have kn:=(chkL_iff.1 c1).n
  have r:askE L=((askN L.C.length (fnd L) L.C.length).1,(askN L.C.length (fnd L) L.C.length).2,0):=by unfold askE;rw [if_pos c]
  obtain ⟨id,rfl,hDk⟩:=hD c
  rw [r]
  rw [c3] at hA e1
  have hAI:AllI G0.length H1 x (fnd L):=hA.all
  have hfew:=fnd_few (L:=L) kn.2
  obtain ⟨H4,eH4⟩:∃ H4,H4=H3++[lkB (.fn 129 [] [.ptr (some ⟨H1.length,0,0⟩),.ptr (some ⟨H1.length+1,0,0⟩)])]:=⟨_,rfl⟩
  have x4:Ext H3 H4:=by rw [eH4];exact .app .refl
  have l4:H4.length=H1.length+3:=by rw [eH4];simp [l3]
  have g4:H4[H3.length]?=some (lkB (.fn 129 [] [.ptr (some ⟨H1.length,0,0⟩),.ptr (some ⟨H1.length+1,0,0⟩)])):=by rw [eH4];exact get_eq rfl
  have ga4:=x4.get ga
  have gb4:=x4.get gb
  have x14:=(x2.trans x3).trans x4
  have hD4:=hDk.ext x14
  have hlv:=fun base p (hp:p<L.C.length)=>run_lvs (base:=base) (p:=p) ga4 gb4 hD4 kn (hAI.ext x14) hfew (fun o ho=>fnd_ord ho) hp
  obtain ⟨cv',rv',hg,hC',-⟩:=hD4
  have lc:=ld_cards hg
  have hlc:=lenI hC'
  have hlb:=fun p=>lvsN_bd (n:=L.C.length) (p:=p) hfew
  unfold lkB at eH4 g4
  have hsp:=@Nat.succ_ne_zero;repeat' (first|simp (disch:=first|exact dqb|fail) only [go_sem,↓reduceIte,hsp,← eG0,g0,e1,eq_self,← eH2,← eH3',ga,gb,← eH4,ga4,lc,hlc]|refine WP_drw ?_|refine cnd_intro (fun hsp=>?_) fun hsp=>?_)
  obtain ⟨A,eA⟩:∃ A,A=askN L.C.length (fnd L):=⟨_,rfl⟩
  rw [← eA]
  refine WP_count [(2,3),(8,9),(27,43)] 0 L.C.length (Nat.zero_le _) (fun _ i fr H=>fr 27=.int .i64 (i:Int)∧H=H4∧fr 2=.int .i64 (A i).1∧fr 3=.int .i64 (A i).2) ?_ ?_ ?_
  ·exact ⟨by (simp (disch:=first|exact dqb|fail) only [go_sem,↓reduceIte,Int.natCast_zero];first|done|rfl),rfl,by rw [eA];simp (disch:=first|exact dqb|fail) only [go_sem,↓reduceIte];rfl,by rw [eA];simp (disch:=first|exact dqb|fail) only [go_sem,↓reduceIte];rfl⟩
  ·rintro i fr H hi0 hi hA2 ⟨r27,rfl,r2,r3⟩
   have q4:=hA2 4 rfl
   have q7:=hA2 7 rfl
   have q26:=hA2 26 rfl
   try simp (disch:=first|exact dqb|fail) only [go_sem,↓reduceIte] at q4 q7 q26
   have hlt:((i:Int)<(L.C.length:Int))=True:=eq_true (by omega)
   have hlv0:=fun base=>hlv base i hi
   obtain ⟨m,em⟩:∃ m,m=lvsN L.C.length (fnd L) i:=⟨_,rfl⟩
   rw [← em] at hlv0
   have hs:A (i+1)=if i=0 ∨ m<(A i).2 then ((i:Int),m) else A i:=by rw [eA,askN,em]
   by_cases q1:i=0
   ·have t1:((i:Int)=0)=True:=eq_true (by omega)
    rw [if_pos (.inl q1)] at hs
    have hsp:=@Nat.succ_ne_zero;repeat' (first|simp (disch:=first|exact dqb|fail) only [go_sem,↓reduceIte,hsp,r27,r2,r3,q4,q7,q26,hlt,g4,hlv0,t1]|refine WP_drw ?_|refine cnd_intro (fun hsp=>?_) fun hsp=>?_)
    exact ⟨agq,by omega,by rw [hs],by rw [hs]⟩
   ·have t1:((i:Int)=0)=False:=eq_false (by omega)
    by_cases q2:m<(A i).2
    ·have t2:(m<(A i).2)=True:=eq_true q2
     rw [if_pos (.inr q2)] at hs
     have hsp:=@Nat.succ_ne_zero;repeat' (first|simp (disch:=first|exact dqb|fail) only [go_sem,↓reduceIte,hsp,r27,r2,r3,q4,q7,q26,hlt,g4,hlv0,t1,t2]|refine WP_drw ?_|refine cnd_intro (fun hsp=>?_) fun hsp=>?_)
     exact ⟨agq,by omega,by rw [hs],by rw [hs]⟩
    ·have t2:(m<(A i).2)=False:=eq_false q2
     rw [if_neg (fun z=>z.elim q1 q2)] at hs
     have hsp:=@Nat.succ_ne_zero;repeat' (first|simp (disch:=first|exact dqb|fail) only [go_sem,↓reduceIte,hsp,r27,r2,r3,q4,q7,q26,hlt,g4,hlv0,t1,t2]|refine WP_drw ?_|refine cnd_intro (fun hsp=>?_) fun hsp=>?_)
     exact ⟨agq,by omega,by rw [hs],by rw [hs]⟩
  ·rintro fr H hA2 ⟨r27,rfl,r2,r3⟩
   have q4:=hA2 4 rfl
   have q7:=hA2 7 rfl
   have q26:=hA2 26 rfl
   try simp (disch:=first|exact dqb|fail) only [go_sem,↓reduceIte] at q4 q7 q26
   have hlt:((L.C.length:Int)<(L.C.length:Int))=False:=eq_false (by omega)
   have hsp:=@Nat.succ_ne_zero;repeat' (first|simp (disch:=first|exact dqb|fail) only [go_sem,↓reduceIte,hsp,r27,r2,r3,q4,q7,q26,hlt]|refine WP_drw ?_|refine cnd_intro (fun hsp=>?_) fun hsp=>?_)
   exact fIII rfl rfl rfl (xh3.trans x4)
 ·have t0:((fndE L).2=0)=False:=eq_false c
  have r:askE L=(0,0,(fndE L).2):=by unfold askE;rw [if_neg c]
  rw [r]
  have hsp:=@Nat.succ_ne_zero;repeat' (first|simp (disch:=first|exact dqb|fail) only [go_sem,↓reduceIte,hsp,← eG0,g0,e1,t0,← eH2,← eH3']|refine WP_drw ?_|refine cnd_intro (fun hsp=>?_) fun hsp=>?_)
  exact fIII rfl rfl rfl xh3
end Go.AM
namespace Go.AM
open Go.Proofs.Try
attribute [-go_sem] put_ne put_same
attribute [local go_sem ↓] put_if
def rws4:List Rw3:=[(0,1,1),(5,6,0),(2,4,4),(3,4,4)]
def lac4 (r:Nat):Lac:=⟨3,[1,2,3,4],rws4.take r⟩
theorem bs4 {lit:Bool} {H:Heap} {a b c d:Int}:lit=false→bsA prog lit H 25 4 [(0,.int .i64 a),(1,.int .i64 b),(2,.int .i64 c),(3,.int .i64 d)]=some (.slice (some ⟨H.length,0,0⟩) 4 4,H++[rowB [a,b,c,d] 0]):=by
 intro hl;subst hl;simp [bsA,rowOf,Fc.el25,fillA,repCells,AVal.isN,AVal.cells,splice,rowB,ints]
theorem bs3 {lit:Bool} {H:Heap} {a b c:Int}:lit=false→bsA prog lit H 25 3 [(0,.int .i64 a),(1,.int .i64 b),(2,.int .i64 c)]=some (.slice (some ⟨H.length,0,0⟩) 3 3,H++[rowB [a,b,c] 0]):=by
 intro hl;subst hl;simp [bsA,rowOf,Fc.el25,fillA,repCells,AVal.isN,AVal.cells,splice,rowB,ints]
theorem bs5 {lit:Bool} {H:Heap} {a b c d e:Int}:lit=false→bsA prog lit H 25 5 [(0,.int .i64 a),(1,.int .i64 b),(2,.int .i64 c),(3,.int .i64 d),(4,.int .i64 e)]=some (.slice (some ⟨H.length,0,0⟩) 5 5,H++[rowB [a,b,c,d,e] 0]):=by
 intro hl;subst hl;simp [bsA,rowOf,Fc.el25,fillA,repCells,AVal.isN,AVal.cells,splice,rowB,ints]
theorem bsR4 {lit:Bool} {H:Heap}:bsA prog lit H 42 4 [(0,.agg [.int .i64 0,.int .i64 1,.int .i64 1]),(1,.agg [.int .i64 5,.int .i64 6,.int .i64 0]),(2,.agg [.int .i64 2,.int .i64 4,.int .i64 4]),(3,.agg [.int .i64 3,.int .i64 4,.int .i64 4])]=some (.slice (some ⟨H.length,0,0⟩) 4 4,H++[rowE encR 70 rws4 0]):=by
 simp [bsA,rowOf,Fc.el42,fillA,repCells,AVal.isN,AVal.cells,splice,rowE,flat,encR,rws4]
theorem bsM2 {lit:Bool} {H:Heap}:bsA prog lit H 33 2 [(0,.agg [.int .i64 1,.int .i64 0]),(1,.agg [.int .i64 3,.int .i64 1])]=some (.slice (some ⟨H.length,0,0⟩) 2 2,H++[rowE encM 36 [(1,0),(3,1)] 0]):=by
 simp [bsA,rowOf,Fc.el33,fillA,repCells,AVal.isN,AVal.cells,splice,rowE,flat,encM]
theorem run_Four {base r:Nat} {h:Heap} (hb:base≤h.length) (hr:r≤4):Ret prog raw base (.fn 95 [] []) [.int .i64 (r:Int)] h (fun w H=>Ext h H∧LacAt H w (lac4 r)):=by
 obtain ⟨H1,e1⟩:∃ H1,H1=h++[lacB 0 (.slice none 0 0) (.slice none 0 0)]:=⟨_,rfl⟩
 obtain ⟨H2,e2⟩:∃ H2,H2=H1++[rowE encR 70 rws4 0]:=⟨_,rfl⟩
 obtain ⟨H3,e3⟩:∃ H3,H3=H2++[rowB [1,2,3,4] 0]:=⟨_,rfl⟩
 have l1:H1.length=h.length+1:=by rw [e1];simp
 have l2:H2.length=h.length+2:=by rw [e2];simp [l1]
 have l3:H3.length=h.length+3:=by rw [e3];simp [l2]
 have x1:Ext h H1:=by rw [e1];exact .app .refl
 have x2:Ext H1 H2:=by rw [e2];exact .app .refl
 have x3:Ext H2 H3:=by rw [e3];exact .app .refl
 have g1:H3[h.length]?=some (lacB 0 (.slice none 0 0) (.slice none 0 0)):=x3.get (x2.get (by rw [e1];exact get_eq rfl))
 have g2:H3[H1.length]?=some (rowE encR 70 rws4 0):=x3.get (by rw [e2];exact get_eq rfl)
 have g3:H3[H2.length]?=some (rowB [1,2,3,4] 0):=by rw [e3];exact get_eq rfl
 have ln:∀ {H:Heap},lenOpA prog H 42 (.slice (some ⟨H1.length,0,0⟩) 4 4)=some (.int .i64 4):=fun {H}=>by simp [lenOpA,Fc.el42,lenA]
 have mn:min (r:Int) 4=(r:Int):=by omega
 have mx:max 0 (r:Int)=(r:Int):=by omega
 have sl:sliceA prog 42 (.slice (some ⟨H1.length,0,0⟩) 4 4) none (some (.int .i64 (r:Int))) none=some (.slice (some ⟨H1.length,0,0⟩) r 4):=by
  simp only [sliceA,Fc.ar42,Fc.el42,optB,boundI (show (0:Int)≤(r:Int) by omega) (show (r:Int)≤((4:Nat):Int) by omega)]
  simp [ARef.add]
 have hfin:Ext h (H3.set h.length (lacB 3 (.slice (some ⟨H2.length,0,0⟩) 4 4) (.slice (some ⟨H1.length,0,0⟩) r 4)))∧LacAt (H3.set h.length (lacB 3 (.slice (some ⟨H2.length,0,0⟩) 4 4) (.slice (some ⟨H1.length,0,0⟩) r 4))) (.agg [.int .i64 3,.slice (some ⟨H2.length,0,0⟩) 4 4,.slice (some ⟨H1.length,0,0⟩) r 4]) (lac4 r):=by
  refine ⟨((x1.trans x2).trans x3).set (Nat.le_refl _),_,_,rfl,?_,?_⟩
  ·refine ⟨⟨by show ([1,2,3,4]:List Int).length<2 ^ 60;decide,by show ∀ x ∈ ([1,2,3,4]:List Int),_;decide⟩,.inr (.inr ⟨⟨H2.length,0,0⟩,4,ints [1,2,3,4],3,true,false,rfl,?_,rfl,by show 0+([1,2,3,4]:List Int).length≤4;decide,by show ([1,2,3,4]:List Int).length≤4;decide⟩)⟩
   rw [List.getElem?_set_ne (by show h.length ≠ H2.length;omega)];exact g3
  ·have hlen:(rws4.take r).length=r:=by rw [List.length_take];exact Nat.min_eq_left hr
   refine ⟨by show (rws4.take r).length<_;omega,.inr (.inr ⟨⟨H1.length,0,0⟩,4,flat encR rws4,70,true,false,by show _=AVal.slice _ (rws4.take r).length _;rw [hlen],?_,?_,?_,by show (rws4.take r).length≤4;omega⟩)⟩
   ·rw [List.getElem?_set_ne (by show h.length ≠ H1.length;omega)];exact g2
   ·show ((flat encR rws4).drop 0).take ((rws4.take r).length * 3)=flat encR (rws4.take r)
    rw [hlen]
    have:r=0 ∨ r=1 ∨ r=2 ∨ r=3 ∨ r=4:=by omega
    rcases this with rfl|rfl|rfl|rfl|rfl<;>rfl
   ·show 0+(rws4.take r).length * 3≤12
    omega
 unfold lacB at e1 g1 hfin
 refine ret_raw func95 rfl (by kernel_rfl) ?_
 have hsp:=@Nat.succ_ne_zero;repeat' (first|simp (disch:=first|exact dqb|fail) only [go_sem,↓reduceIte,hsp,← e1,bsR4,← e2,bs4,← e3,ln,mn,mx,sl,g1]|refine WP_drw ?_|refine cnd_intro (fun hsp=>?_) fun hsp=>?_)
 exact hfin
theorem kw4:kwnE (lac4 2)=([2,0,-1,-1],0):=by kernel_rfl
theorem cn4:cntE (lac4 2)=(2,0):=by kernel_rfl
theorem as4:askE (lac4 2)=(2,1,0):=by kernel_rfl
theorem gp4:gpsE (lac4 4) [2,3]=(1,0):=by kernel_rfl
theorem ri5:risE [2,0,3,1,4]=([0,2,4],0):=by kernel_rfl
theorem mk5:makE [2,0,3,1,4] [(1,0),(3,1)]=([0,1,2,3,4],0):=by kernel_rfl
end Go.AM
namespace Go.AM
open Go.Proofs.Try
attribute [-go_sem] put_ne put_same
attribute [local go_sem ↓] put_if
theorem small5:Small [2,0,3,1,4]:=⟨by decide,by decide⟩
set_option maxRecDepth 100000 in
set_option maxHeartbeats 4000000 in
theorem run_awake {base:Nat} {h:Heap}:callL prog raw base (.fn 28 [] []) [] h=some (.bool true,h):=by
 obtain ⟨b,eb⟩:∃ b,b=h.length:=⟨_,rfl⟩
 obtain ⟨v1,H1,e1,x1,c1⟩:=run_Four (base:=h.length) (r:=2) (h:=h) (Nat.le_refl _) (by omega)
 have n1:=x1.len
 obtain ⟨_,H2,e2,x2,k1,rfl,o2⟩:=run_Known (base:=h.length) (h:=H1) (by omega) c1
 rw [kw4] at e2 o2
 have n2:=x2.len
 obtain ⟨v3,H3,e3,x3,c3⟩:=run_Four (base:=h.length) (r:=2) (h:=H2) (by omega) (by omega)
 have n3:=x3.len
 have e4:=run_Count (base:=h.length) c3
 rw [cn4] at e4
 obtain ⟨v5,H5,e5,x5,c5⟩:=run_Four (base:=h.length) (r:=2) (h:=H3) (by omega) (by omega)
 have n5:=x5.len
 have e6:=run_Ask (base:=h.length) c5
 rw [as4] at e6
 obtain ⟨v7,H7,e7,x7,c7⟩:=run_Four (base:=h.length) (r:=4) (h:=H5) (by omega) (by omega)
 have n7:=x7.len
 obtain ⟨H8,eH8⟩:∃ H8,H8=H7++[rowB [2,3] 0]:=⟨_,rfl⟩
 have x8:Ext H7 H8:=by rw [eH8];exact .app .refl
 have n8:=x8.len
 have e8:=run_Gapes (base:=h.length) (gap:=[2,3]) (gv:=.slice (some ⟨H7.length,0,0⟩) 2 2) (c7.ext x8) (by rw [eH8];exact slice_row rfl rfl ⟨by decide,by decide⟩)
 rw [gp4] at e8
 obtain ⟨H9,eH9⟩:∃ H9,H9=H8++[rowB [2,0,3,1,4] 0]:=⟨_,rfl⟩
 have x9:Ext H8 H9:=by rw [eH9];exact .app .refl
 have n9:=x9.len
 obtain ⟨_,H10,e10,x10,k2,rfl,o10⟩:=run_Rise (base:=h.length) (h:=H9) (v:=.slice (some ⟨H8.length,0,0⟩) 5 5) (o:=[2,0,3,1,4]) (by omega) (by rw [eH9];exact slice_row rfl rfl small5)
 rw [ri5] at e10 o10
 have n10:=x10.len
 obtain ⟨H11,eH11⟩:∃ H11,H11=H10++[rowB [2,0,3,1,4] 0]:=⟨_,rfl⟩
 have x11:Ext H10 H11:=by rw [eH11];exact .app .refl
 have n11:=x11.len
 obtain ⟨H12,eH12⟩:∃ H12,H12=H11++[rowE encM 36 [(1,0),(3,1)] 0]:=⟨_,rfl⟩
 have x12:Ext H11 H12:=by rw [eH12];exact .app .refl
 have n12:=x12.len
 obtain ⟨_,H13,e13,x13,k3,rfl,o13⟩:=run_Make (base:=h.length) (h:=H12) (v:=.slice (some ⟨H10.length,0,0⟩) 5 5) (mv:=.slice (some ⟨H11.length,0,0⟩) 2 2) (o:=[2,0,3,1,4]) (ms:=[(1,0),(3,1)]) (by omega)
  (Ints.ext (by rw [eH11];exact slice_row rfl rfl small5) x12) (Rows.own (by rw [eH12];exact get_eq rfl) rfl (by decide)) (by decide)
 rw [mk5] at e13 o13
 have n13:=x13.len
 have ok1:=o2.one
 have ok2:=o10.one
 have ok3:=o13.one
 have i1:Ints H2 k1 [2,0,-1,-1]:=ownE_ints o2 ⟨by decide,by decide⟩
 have i2:Ints H10 k2 [0,2,4]:=own_ints o10 ⟨by decide,by decide⟩
 have i3:Ints H13 k3 [0,1,2,3,4]:=ownE_ints o13 ⟨by decide,by decide⟩
 have y10:=(x11.trans x12).trans x13
 have y2:=(((((x3.trans x5).trans x7).trans x8).trans x9).trans x10).trans y10
 obtain ⟨K1,eK1⟩:∃ K1,K1=H13++[rowB [2,0,-1,-1] 0]:=⟨_,rfl⟩
 have z1:Ext H13 K1:=by rw [eK1];exact .app .refl
 obtain ⟨K2,eK2⟩:∃ K2,K2=K1++[rowB [0,2,4] 0]:=⟨_,rfl⟩
 have z2:Ext K1 K2:=by rw [eK2];exact .app .refl
 obtain ⟨K3,eK3⟩:∃ K3,K3=K2++[rowB [0,1,2,3,4] 0]:=⟨_,rfl⟩
 have z3:Ext K2 K3:=by rw [eK3];exact .app .refl
 have q1:=run_eqI (base:=h.length) (h:=K1) (b:=.slice (some ⟨H13.length,0,0⟩) 4 4) (m:=[2,0,-1,-1]) (i1.ext (y2.trans z1)) (by rw [eK1];exact slice_row rfl rfl ⟨by decide,by decide⟩)
 have q2:=run_eqI (base:=h.length) (h:=K2) (b:=.slice (some ⟨K1.length,0,0⟩) 3 3) (m:=[0,2,4]) (i2.ext ((y10.trans z1).trans z2)) (by rw [eK2];exact slice_row rfl rfl ⟨by decide,by decide⟩)
 have q3:=run_eqI (base:=h.length) (h:=K3) (b:=.slice (some ⟨K2.length,0,0⟩) 5 5) (m:=[0,1,2,3,4]) (i3.ext ((z1.trans z2).trans z3)) (by rw [eK3];exact slice_row rfl rfl ⟨by decide,by decide⟩)
 rw [decide_eq_true rfl] at q1 q2 q3
 have xf:Ext h K3:=((((x1.trans x2).trans y2).trans z1).trans z2).trans z3
 rw [show ((2:Nat):Int)=2 from rfl] at e1 e3 e5
 rw [show ((4:Nat):Int)=4 from rfl] at e7
 refine callL_run func28 rfl rfl ?_
 have hsp:=@Nat.succ_ne_zero;repeat' (first|simp (disch:=first|exact dqb|fail) only [go_sem,↓reduceIte,hsp,e1,e2,e3,e4,e5,e6,e7,bs2,← eH8,e8,bs5,← eH9,e10,← eH11,bsM2,← eH12,e13,eq_self,decide_true,bs4,← eK1,q1,bs3,← eK2,q2,← eK3,q3]|refine WP_drw ?_|refine cnd_intro (fun hsp=>?_) fun hsp=>?_)
 exact fB rfl xf
end Go.AM
namespace Go.AM
open Go.Proofs.Try
attribute [-go_sem] put_ne put_same
attribute [local go_sem ↓] put_if
theorem perm_ord {n:Nat} {o:List Int} (h:o.Perm (upto n)):Ord n o:=⟨by rw [h.length_eq,upto_len],fun x hx=>upto_mem.1 (h.mem_iff.1 hx),h.nodup_iff.2 (upto_nd n)⟩
structure Risn (h H:Heap) (v0 v1:AVal) (l0 l1:List Int) (n:Nat) (w:AVal) (o:List Int):Prop where
 bd:1≤n∧n≤7
 ext:Ext h H
 own:OwnE encI 3 (h.length+2) H w o
 ord:Ord n o
 len:h.length+2≤H.length
 q:SpAt H (h.length+1) v1 l1 0
theorem run_risn {h:Heap} {v0 v1:AVal} {l0 l1:List Int} (hB0:Bytes h v0 l0) (hB1:Bytes h v1 l1) :
  ∃ (G2:Heap) (n:Nat) (H:Heap) (w:AVal) (o:List Int),callL prog raw h.length (.fn 18 [] []) [v0] h=some (.ptr (some ⟨h.length,0,0⟩),h++[spB v0 l0 0]) ∧
   callL prog raw h.length (.fn 18 [] []) [v1] (h++[spB v0 l0 0])=some (.ptr (some ⟨h.length+1,0,0⟩),h++[spB v0 l0 0]++[spB v1 l1 0]) ∧
   callL prog raw h.length (.fn 20 [] []) [.ptr (some ⟨h.length,0,0⟩),.int .i64 1,.int .i64 7] (h++[spB v0 l0 0]++[spB v1 l1 0])=some (.int .i64 (n:Int),G2) ∧
   callL prog raw h.length (.fn 19 [] []) [.ptr (some ⟨h.length,0,0⟩),.int .i64 (n:Int)] G2=some (w,H)∧Risn h H v0 v1 l0 l1 n w o:=by
 have hw0:=run_wound (base:=h.length) hB0
 have hw1:=run_wound (base:=h.length) (hB1.ext (.app (t:=[spB v0 l0 0]) .refl))
 rw [show (h++[spB v0 l0 0]).length=h.length+1 by simp] at hw1
 obtain ⟨G1,eG1⟩:∃ G1,G1=h++[spB v0 l0 0]++[spB v1 l1 0]:=⟨_,rfl⟩
 have lG1:G1.length=h.length+2:=by rw [eG1];simp
 have x1:Ext h G1:=by rw [eG1];exact .app (.app .refl)
 have hS0:SpAt G1 h.length v0 l0 0:=by rw [eG1];exact (SpAt.new hB0 rfl).app
 have hS1:SpAt G1 (h.length+1) v1 l1 0:=by rw [eG1];exact SpAt.new (hB1.ext (.app (t:=[spB v0 l0 0]) .refl)) (by simp)
 have hfr:=run_from (base:=h.length) (lo:=1) (hi:=7) hS0 (by omega) (by omega) (by omega)
 have hup:=up_bd (silk:=l0) (k:=0) (n:=7-1) (by omega)
 obtain ⟨n,en⟩:=Int.eq_ofNat_of_zero_le (show 0≤1+up l0 0 (7-1) by omega)
 rw [en] at hfr
 obtain ⟨G2,eG2⟩:∃ G2,G2=G1.set h.length (spB v0 l0 (0+1)):=⟨_,rfl⟩
 rw [← eG2] at hfr
 have hS2:SpAt G2 h.length v0 l0 (0+1):=by rw [eG2];exact hS0.set
 have lG2:G2.length=h.length+2:=by rw [eG2,List.length_set,lG1]
 obtain ⟨w,H,eo,y,o,oo,hp⟩:=run_order (base:=h.length) (n:=n) (by omega) hS2 (by omega) (by omega)
 have ly:=y.len
 refine ⟨G2,n,H,w,o,hw0,hw1,by rw [← eG1];exact hfr,eo,by omega,?_,oo.low (by omega),perm_ord hp,by omega,?_⟩
 ·have:Ext h G2:=by rw [eG2];exact x1.set (Nat.le_refl _)
  exact y.on this (Nat.le_refl _)
 ·have g2:G2[h.length+1]?=some (spB v1 l1 0):=by rw [eG2,List.getElem?_set_ne (by omega)];exact hS1.1
  refine ⟨y.get (by omega) g2,?_,hS1.2.2⟩
  have:Ext h H:=y.on (show Ext h G2 by rw [eG2];exact x1.set (Nat.le_refl _)) (Nat.le_refl _)
  exact hB1.ext this
end Go.AM
namespace Go.AM
open Go.Proofs.Try
attribute [-go_sem] put_ne put_same
attribute [local go_sem ↓] put_if
structure MadeOk (T:Int) (C:List Int) (N:Nat):Prop where
 tb:1≤T∧T≤8
 n:1≤C.length∧C.length≤N
 c:∀ x ∈ C,0≤x∧x≤2 ^ T.toNat-1
 d:C.Nodup
end Go.AM
namespace Go.AM
open Go.Proofs.Try
attribute [-go_sem] put_ne put_same
attribute [local go_sem ↓] put_if
end Go.AM
namespace Go.AM
open Go.Proofs.Try
attribute [-go_sem] put_ne put_same
attribute [local go_sem ↓] put_if
structure Strt (G H:Heap) (id:Nat) (v:AVal) (silk:List Int) (b:Nat) (T:Int) (C:List Int) (R:List Rw3) (o:List Int) (cv rv ov:AVal) (k N most:Nat):Prop where
 sp:SpE G id v silk k H
 k:k≤1000
 g:H[b]?=some (lacB T cv rv)
 b:G.length≤b∧b<H.length
 oC:OwnE encI 3 G.length H cv C
 oR:OwnE encR 70 G.length H rv R
 oO:OwnE encI 3 G.length H ov o
 made:MadeOk T C N
 ord:Ord C.length o
 seen:∀ r ∈ R,SeenOk T C o r
 rl:R.length≤most
section
variable {G H:Heap} {id:Nat} {v:AVal} {silk:List Int} {b:Nat} {T:Int} {C:List Int} {R:List Rw3} {o:List Int} {cv rv ov:AVal} {k N most:Nat}
end
end Go.AM
namespace Go.AM
section
variable {n:Nat} {os:List (List Int)} (hn:os.Nodup) (ho:∀ o ∈ os,Ord n o)
include hn ho
end
def lookR (L:Lac) (p k:Nat):Rw3:=((p:Int),2 ^ L.T.toNat-1,L.C.getD k 0)
def lvsK (os:List (List Int)) (p k:Nat):Int:=grt (lst (fun k=>(os.countP fun o=>decide (o.getD p 0=(k:Int)):Nat)) k)
theorem lvsK_all {n:Nat} {os:List (List Int)} {p:Nat}:lvsK os p n=lvsN n os p:=rfl
end Go.AM
namespace Go.AM
open Go.Proofs.Try
attribute [-go_sem] put_ne put_same
attribute [local go_sem ↓] put_if
end Go.AM
namespace Go.AM
open Go.Proofs.Try
attribute [-go_sem] put_ne put_same
attribute [local go_sem ↓] put_if
end Go.AM
namespace Go.AM
open Go.Proofs.Try
attribute [-go_sem] put_ne put_same
attribute [local go_sem ↓] put_if
end Go.AM
namespace Go.AM
open Go.Proofs.Try
attribute [-go_sem] put_ne put_same
attribute [local go_sem ↓] put_if
structure Fnd (h K:Heap) (b:Nat) (v1:AVal) (l1:List Int) (T:Int) (C o:List Int) (cv ov:AVal) (kq:Nat) (rw':AVal) (Ri:List Rw3) (i:Nat):Prop where
 fq:K[h.length+1]?=some (spB v1 l1 kq)
 fk:kq≤10 * i
 ext:Ext h K
 fb:h.length+2≤b∧b<K.length
 fg:K[b]?=some (lacB T cv rw')
 oC:OwnE encI 3 (h.length+2) K cv C
 oO:OwnE encI 3 (h.length+2) K ov o
 oR:OwnE encR 70 (h.length+2) K rw' Ri
 ok:LacOk ⟨T,C,Ri⟩
 rl:Ri.length≤8+i
 first:i=0→o ∈ fnd ⟨T,C,Ri⟩
end Go.AM
namespace Go.AM
open Go.Shelf Go.Lib Go.Proofs
section
variable {w:World} {b:Nat} {T:TypeId} {fz:Nat × Nat}
theorem setCell_heap {C:Array Value} (hb:w.heap[b]?=some (.cells C T fz)) (o:Nat) (v:Value) :
  (w.setCell ⟨b,o,none⟩ v).heap[b]?=some (.cells (C.setIfInBounds o v) T fz)∧(∀ k,k ≠ b→(w.setCell ⟨b,o,none⟩ v).heap[k]?=w.heap[k]?):=by
 unfold World.setCell
 constructor
 ·simp only [Array.getElem?_modify,if_true,hb,Option.map_some];simp
 ·intro k hk
  simp only [Array.getElem?_modify]
  rw [if_neg (fun e=>hk e.symm)]
theorem setCells_heap:∀ (vs:List Value) (o:Nat) (w:World) (C:Array Value),w.heap[b]?=some (.cells C T fz)→o+vs.length≤C.size →
  ∃ C',(w.setCells b o vs).heap[b]?=some (.cells C' T fz)∧C'.size=C.size∧(∀ j,C'[j]?=if o≤j∧j<o+vs.length then vs[j-o]? else C[j]?)∧(∀ k,k ≠ b→(w.setCells b o vs).heap[k]?=w.heap[k]?)∧(w.setCells b o vs).heap.size=w.heap.size∧(w.setCells b o vs).os=w.os∧(w.setCells b o vs).tape=w.tape∧(w.setCells b o vs).output=w.output
 | [],o,w,C,hb,_=>⟨C,hb,rfl,fun j=>by rw [if_neg (by simp only [List.length_nil];omega)],fun _ _=>rfl,rfl,rfl,rfl,rfl⟩
 | v :: vs,o,w,C,hb,hl=>by
  rw [List.length_cons] at hl
  obtain ⟨h1,h2⟩:=setCell_heap hb o v
  obtain ⟨C',g1,g2,g3,g4,g5,g6,g7,g8⟩:=setCells_heap vs (o+1) (w.setCell ⟨b,o,none⟩ v) (C.setIfInBounds o v) h1 (by rw [Array.size_setIfInBounds];omega)
  refine ⟨C',g1,by rw [g2,Array.size_setIfInBounds],fun j=>?_,fun k hk=>(g4 k hk).trans (h2 k hk),by rw [show w.setCells b o (v :: vs)=(w.setCell ⟨b,o,none⟩ v).setCells b (o+1) vs from rfl,g5];simp,g6,g7,g8⟩
  rw [g3 j,List.length_cons]
  by_cases c:j=o
  ·subst c
   rw [if_neg (by omega),if_pos (by omega),Nat.sub_self,List.getElem?_cons_zero,Array.getElem?_setIfInBounds,if_pos rfl,if_pos (by omega)]
  ·by_cases d:o+1≤j∧j<o+1+vs.length
   ·rw [if_pos d,if_pos (by omega),show j-o=(j-(o+1))+1 by omega,List.getElem?_cons_succ]
   ·rw [if_neg d,if_neg (by omega),Array.getElem?_setIfInBounds,if_neg (fun e=>c e.symm)]
end
end Go.AM
namespace Go.AM
open Go.Proofs.Try
attribute [-go_sem] put_ne put_same
attribute [local go_sem ↓] put_if
def insRen:Go.Shelf.Ren:=⟨fun x=>match x with
  | 21=>140
  | 27=>166
  | 28=>167
  | 35=>192
  | 39=>22
  | n=>n,
 fun x=>match x with
  | 22=>25
  | 3=>3
  | 4=>4
  | n=>n,
 fun n=>n⟩
theorem insT0:insRen.t 0=0:=rfl
theorem insT3:insRen.t 3=3:=rfl
theorem insT4:insRen.t 4=4:=rfl
theorem insT22:insRen.t 22=25:=rfl
end Go.AM
