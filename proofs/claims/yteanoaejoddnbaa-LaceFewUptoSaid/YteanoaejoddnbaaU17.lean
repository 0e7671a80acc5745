/-
  Contracts: Decide.
-/
import Derived.Test.YteanoaejoddnbaaU16
import Derived.Test.YteanoaejoddnbaaU15
import Derived.Test.YteanoaejoddnbaaU12
import Derived.Test.YteanoaejoddnbaaU14
import Derived.Test.YteanoaejoddnbaaU13
set_option linter.unusedSimpArgs false
set_option linter.unusedVariables false
namespace Go.AM
open Go.Proofs.Try
attribute [-go_sem] put_ne put_same
attribute [local go_sem ↓] put_if
def prC (b:ABlk):Prop:=∀ es,b ≠ ⟨.map es,0⟩
theorem KeepX.keepP {m:Nat} {H H':Heap} {es:List (AVal × AVal)} (k:KeepX m H H') (g:H[m]?=some ⟨.map es,0⟩):KeepP 0 prC H H' :=
 ⟨k.1,fun i x _ hx hg=>k.2 i x (fun e=>by rw [e,g] at hg;cases hg;exact hx es rfl) hg⟩
set_option maxHeartbeats 2000000 in
theorem run_dcd1 {base bb B:Nat} {h:Heap} {lv ovv:AVal} {l:List Int} {os:List (List Int)} {n:Nat} (gB:h[B]?=some (lsB ovv)) (hA:AllI bb h ovv os) (hos:os.length≤823543) (hord:∀ o ∈ os,Ord n o) (hn:n≤7) (hI:Ints h lv l) (hl:l.length≤7) (hin:∀ x ∈ l,0≤x∧x<(n:Int)) :
  callL prog raw base (.fn 131 [] [.ptr (some ⟨B,0,0⟩)]) [lv] h=some (.bool (dcdP os l),h):=by
 have olv:=hI.one
 have oov:=hA.one
 have lB':=lt_of_get gB
 obtain ⟨G,eG⟩:∃ G,G=h++[lB lv]++[(⟨.map (mpK []),0⟩:ABlk)]++[mbB (h.length+1)]:=⟨_,rfl⟩
 have xG:Ext h G:=by rw [eG];exact .app (.app (.app .refl))
 have lG:G.length=h.length+3:=by rw [eG];simp
 have gA:G[h.length]?=some (lB lv):=by rw [eG];exact get_app (get_app (get_eq rfl))
 have gm:G[h.length+1]?=some ⟨.map (mpK []),0⟩:=by rw [eG];exact get_app (get_eq (by simp))
 have gM:G[h.length+1+1]?=some (mbB (h.length+1)):=by rw [eG];exact get_eq (by simp)
 have gBG:=xG.get gB
 obtain ⟨g,eg⟩:∃ g,g=(.fn 132 [] [.ptr (some ⟨h.length,0,0⟩),.ptr (some ⟨h.length+1+1,0,0⟩)]:AVal):=⟨_,rfl⟩
 have og:One g:=by rw [eg];exact ⟨rfl,rfl,rfl⟩
 obtain ⟨m,em⟩:∃ m,m=h.length+1:=⟨_,rfl⟩
 have hA0:=hA
 obtain ⟨vs,hO,hvl,hel⟩:=hA
 have hR:=hO.rows (by omega)
 have hk7:∀ o,(kyA l o).length=7:=fun o=>kyA_len hl
 obtain ⟨w,H,e3,k3,b,rfl,c1,c2⟩:=everyS_Z (base:=h.length) (h:=G) (v:=ovv) (g:=g) (l:=vs) (A:=0) (pr:=prC)
  (J:=fun i H=>KeepX m G H∧H[m]?=some ⟨.map (mpK ((os.take i).map (kyA l))),0⟩∧((os.take i).map (kyA l)).Nodup) (S:=fun i H=>KeepX m G H∧¬ (os.map (kyA l)).Nodup) (by omega) og (by omega) (fun es q=>by cases q)
  (fun i H q=>hR.ext (q.1.ext xG (by omega)))
  (fun i x H hx hH ⟨q1,q2,q3⟩=>by
   have hi:=(List.getElem?_eq_some_iff.1 hx).1
   have ht:os[i]?=some os[i]:=List.getElem?_eq_getElem (by omega)
   obtain ⟨o,eo⟩:∃ o,o=os[i]'(by omega):=⟨_,rfl⟩
   rw [← eo] at ht
   have ho:=hel i x _ hx ht
   have hoo:=hord o (List.mem_of_getElem? ht)
   have xh:=q1.ext xG (by omega)
   rw [norm_one ho.one,eg]
   obtain ⟨H',e,k,u⟩:=run_key (base:=h.length) (A:=h.length) (M:=h.length+1+1) (m:=m) (n:=n) (H:=H) (lv:=lv) (ov:=x) (l:=l) (o:=o) (ks:=(os.take i).map (kyA l)) (by omega) (q1.2 _ _ (by omega) gA) (by rw [em];exact q1.2 _ _ (by omega) gM) q2 (hI.ext xh) (ownE_ints (ho.ext xh) (ord_small hoo (by omega))) hl (by rw [hoo.1];exact hin) (fun y hy=>by
    obtain ⟨z,_,rfl⟩:=List.mem_map.1 hy
    exact hk7 z)
   have htk:(os.take (i+1)).map (kyA l)=(os.take i).map (kyA l)++[kyA l o]:=by
    rw [List.take_add_one,ht];simp
   refine ⟨_,H',e,k.keepP q2,fun q=>?_,fun q=>?_⟩
   ·have hc:=of_decide_eq_true q
    refine ⟨q1.trans k,by rw [htk];exact u hc,?_⟩
    rw [htk,List.nodup_append]
    exact ⟨q3,by simp,fun a ha b hb e=>by rw [List.mem_singleton] at hb;exact hc (by rw [← hb,← e];exact ha)⟩
   ·have hc:=Classical.not_not.1 (of_decide_eq_false q)
    refine ⟨q1.trans k,fun hN=>?_⟩
    have hsub:((os.take (i+1)).map (kyA l)).Nodup:=(List.Sublist.map _ (List.take_sublist _ _)).nodup hN
    rw [htk,List.nodup_append] at hsub
    exact hsub.2.2 _ hc _ (by simp) rfl)
  ⟨.ofExt (.app .refl),by rw [em];exact get_app gm,by simp⟩
 have hfin:KeepX m G H∧b=dcdP os l:=by
  cases b with
  | true =>
   obtain ⟨q1,_,q3⟩:=c1 rfl
   rw [hvl,List.take_length] at q3
   exact ⟨q1,(decide_eq_true (kyA_nodup.1 q3)).symm⟩
  | false =>
   obtain ⟨i,_,q1,q2⟩:=c2 rfl
   exact ⟨q1,(decide_eq_false (fun q=>q2 (kyA_nodup.2 q))).symm⟩
 obtain ⟨kf,rfl⟩:=hfin
 have hmp:([]:List (AVal × AVal))=mpK []:=rfl
 unfold lsB at gBG
 unfold mbB lB at eG
 rw [eg] at e3
 refine callL_run func131 rfl rfl ?_
 have hsp:=@Nat.succ_ne_zero;repeat' (first|simp (disch:=first|exact dqb|fail) only [go_sem,↓reduceIte,hsp,hmp,← eG,gBG,e3]|refine WP_drw ?_|refine cnd_intro (fun hsp=>?_) fun hsp=>?_)
 exact fB rfl (kf.ext xG (by omega))
def dcdE (L:Lac):List Int × Int:=if (fndE L).2=0 then (dcdL L.C.length (fnd L),0) else ([],(fndE L).2)
set_option maxHeartbeats 1000000 in
theorem run_Decide {base:Nat} {h:Heap} {v:AVal} {L:Lac} (hb:base≤h.length) (hL:LacAt h v L) :
  Ret prog raw base (.fn 62 [] []) [v] h (fun w H=>Ext h H∧∃ x,w=.tuple [x,.int .i64 (dcdE L).2]∧Own encI 3 h.length H x (dcdE L).1):=by
 have hL0:=hL
 obtain ⟨cv,rv,rfl,hC,hR⟩:=hL
 have o1:=hC.one
 have o2:=hR.one
 obtain ⟨G0,eG0⟩:∃ G0,G0=h++[lacB L.T cv rv]:=⟨_,rfl⟩
 have x0:Ext h G0:=by rw [eG0];exact .app .refl
 have g0:G0[h.length]?=some (lacB L.T cv rv):=by rw [eG0];exact get_eq rfl
 have l0:G0.length=h.length+1:=by rw [eG0];simp
 obtain ⟨w1,H1,e1,x1,a,x,rfl,oa,hA,hD⟩:=run_found (base:=base) (h:=G0) (by omega) (hL0.ext x0)
 have ox:=hA.one
 have l1:=x1.len
 have xh:=x0.trans x1
 obtain ⟨H2,eH2⟩:∃ H2,H2=H1++[lsB x]:=⟨_,rfl⟩
 have x2:Ext H1 H2:=by rw [eH2];exact .app .refl
 have g2:H2[H1.length]?=some (lsB x):=by rw [eH2];exact get_eq rfl
 have l2:H2.length=H1.length+1:=by rw [eH2];simp
 have eH2':=eH2
 unfold lacB at eG0 g0
 unfold lsB at eH2'
 refine ret_raw func62 rfl (by kernel_rfl) ?_
 by_cases c:(fndE L).2=0
 ·obtain ⟨c1,c2,c3⟩:=fndE_ok c
  have kn:=(chkL_iff.1 c1).n
  obtain ⟨id,rfl,hDk⟩:=hD c
  rw [c3] at hA e1
  have hAI:AllI G0.length H1 x (fnd L):=hA.all
  have hfew:=fnd_few (L:=L) kn.2
  obtain ⟨d1,d2,d3⟩:=dcdL_is (n:=L.C.length) (fnd_nodup (L:=L)) (fun o ho=>(fnd_ord ho).1)
  have r:dcdE L=(dcdL L.C.length (fnd L),0):=by unfold dcdE;rw [if_pos c]
  rw [r]
  obtain ⟨w3,H3,e3,x3,y,rfl,hres⟩:=run_first (base:=base) (id:=id) (h:=H2) (g:=.fn 131 [] [.ptr (some ⟨H1.length,0,0⟩)]) (L:=L) (p:=dcdP (fnd L)) (by omega) ⟨rfl,rfl,rfl⟩ (hDk.ext x2) kn.2
   (fun O H sv l hO y1 y2 hOw hin hll=>run_dcd1 (n:=L.C.length) (y1.get g2) (hAI.ext (x2.trans y1)) hfew (fun o ho=>fnd_ord ho) kn.2 (own_ints hOw ⟨by omega,fun z hz=>by have:=hin z hz;omega⟩) (by omega) hin)
  rw [d1] at e3
  rw [d2] at hres
  have hres:Own encI 3 H2.length H3 y (dcdL L.C.length (fnd L)):=hres
  have oy:=hres.one
  have hsp:=@Nat.succ_ne_zero;repeat' (first|simp (disch:=first|exact dqb|fail) only [go_sem,↓reduceIte,hsp,← eG0,g0,e1,eq_self,← eH2',e3]|refine WP_drw ?_|refine cnd_intro (fun hsp=>?_) fun hsp=>?_)
  exact ⟨xh.trans (x2.trans x3),y,rfl,hres.low (by omega)⟩
 ·have t0:((fndE L).2=0)=False:=eq_false c
  have r:dcdE L=([],(fndE L).2):=by unfold dcdE;rw [if_neg c]
  rw [r]
  have hsp:=@Nat.succ_ne_zero;repeat' (first|simp (disch:=first|exact dqb|fail) only [go_sem,↓reduceIte,hsp,← eG0,g0,e1,t0,← eH2']|refine WP_drw ?_|refine cnd_intro (fun hsp=>?_) fun hsp=>?_)
  exact ⟨xh.trans x2,_,rfl,Own.nil⟩
end Go.AM
namespace Go.AM
open Go.Proofs.Try
attribute [-go_sem] put_ne put_same
attribute [local go_sem ↓] put_if
def fitE (L:Lac) (p:Int):List Int × Int:=if chkL L ≠ 0 then ([],chkL L) else if ¬ (0≤p∧p≤(L.C.length:Int)-1) then ([],1) else (fitL L p.toNat,0)
def xplD (L:Lac) (o:List Int) (i:Nat):Bool:=(List.range i).all fun i=>fitB L i (o.getD i 0).toNat
theorem xplD_iff {L:Lac} {o:List Int}:xplD L o o.length=true ↔ Xpl L o:=by
 unfold xplD Xpl
 rw [List.all_eq_true]
 exact ⟨fun h i hi=>h i (List.mem_range.2 hi),fun h i hi=>h i (List.mem_range.1 hi)⟩
def lcdE (L:Lac) (o:List Int):Int:=if chkL L=0 then ordL o L.C.length else chkL L
def xpsE (L:Lac) (o:List Int):Bool × Int:=if lcdE L o=0 then (xplD L o o.length,0) else (false,lcdE L o)
def prmB (l:List Int) (n:Nat):Bool:=decide (l.length=n) && (upto n).all fun k=>decide (k ∈ l)
theorem run_permutes {base n:Nat} {h:Heap} {v:AVal} {l:List Int} (hI:Ints h v l):callL prog raw base (.fn 71 [] []) [v,.int .i64 (n:Int)] h=some (.bool (prmB l n),h):=by
 have hl:=hI.1.1
 have ov:=hI.one
 have hlo:=lenI hI
 refine callL_run func71 rfl rfl ?_
 by_cases c:l.length=n
 ·have t1:((l.length:Int)=(n:Int))=True:=eq_true (by omega)
  have hsp:=@Nat.succ_ne_zero;repeat' (first|simp (disch:=first|exact dqb|fail) only [go_sem,↓reduceIte,hsp,hlo,t1]|refine WP_drw ?_|refine cnd_intro (fun hsp=>?_) fun hsp=>?_)
  refine WP_count [(4,5),(11,18)] 0 n (Nat.zero_le _) (fun _ i fr H=>fr 11=.int .i64 (i:Int)∧H=h∧(upto i).all (fun k=>decide (k ∈ l))=true) ?_ ?_ ?_
  ·exact ⟨by (simp (disch:=first|exact dqb|fail) only [go_sem,↓reduceIte,Int.natCast_zero];first|done|rfl),rfl,rfl⟩
  ·rintro i fr H hi0 hi hA ⟨r11,rfl,hx⟩
   have q0:=hA 0 rfl
   have q10:=hA 10 rfl
   try simp (disch:=first|exact dqb|fail) only [go_sem,↓reduceIte] at q0 q10
   have hlt:((i:Int)<(n:Int))=True:=eq_true (by omega)
   have hc:=fun base=>run_contains (base:=base) (x:=(i:Int)) hI
   by_cases m:(i:Int) ∈ l
   ·rw [decide_eq_true m] at hc
    have hsp:=@Nat.succ_ne_zero;repeat' (first|simp (disch:=first|exact dqb|fail) only [go_sem,↓reduceIte,hsp,r11,q0,q10,hlt,hc]|refine WP_drw ?_|refine cnd_intro (fun hsp=>?_) fun hsp=>?_)
    exact ⟨agq,by omega,by rw [upto_succ,List.all_append,hx];simp [m]⟩
   ·rw [decide_eq_false m] at hc
    have hsp:=@Nat.succ_ne_zero;repeat' (first|simp (disch:=first|exact dqb|fail) only [go_sem,↓reduceIte,hsp,r11,q0,q10,hlt,hc]|refine WP_drw ?_|refine cnd_intro (fun hsp=>?_) fun hsp=>?_)
    refine fB ?_
    unfold prmB
    rw [show (upto n).all (fun k=>decide (k ∈ l))=false from all_no (x:=(i:Int)) (n:=i) (by
     have:(upto n)[i]?=some ((upto n).getD i 0):=getD_some (by rw [upto_len];exact hi)
     rw [this]
     show some ((lst _ n).getD i 0)=_
     rw [lst_get hi]) (decide_eq_false m),Bool.and_false]
  ·rintro fr H hA ⟨r11,rfl,hx⟩
   have q0:=hA 0 rfl
   have q10:=hA 10 rfl
   try simp (disch:=first|exact dqb|fail) only [go_sem,↓reduceIte] at q0 q10
   have hlt:((n:Int)<(n:Int))=False:=eq_false (by omega)
   have hsp:=@Nat.succ_ne_zero;repeat' (first|simp (disch:=first|exact dqb|fail) only [go_sem,↓reduceIte,hsp,r11,q0,q10,hlt]|refine WP_drw ?_|refine cnd_intro (fun hsp=>?_) fun hsp=>?_)
   refine fB ?_
   unfold prmB
   rw [hx,decide_eq_true c];rfl
 ·have t1:((l.length:Int)=(n:Int))=False:=eq_false (by omega)
  have hsp:=@Nat.succ_ne_zero;repeat' (first|simp (disch:=first|exact dqb|fail) only [go_sem,↓reduceIte,hsp,hlo,t1]|refine WP_drw ?_|refine cnd_intro (fun hsp=>?_) fun hsp=>?_)
  refine fB ?_
  unfold prmB
  rw [decide_eq_false c,Bool.false_and]
end Go.AM
namespace Go.AM
open Go.Proofs.Try
attribute [-go_sem] put_ne put_same
attribute [local go_sem ↓] put_if
def makE (o:List Int) (ms:List (Int × Int)):List Int × Int:=if aloL o=0 then makF o.length ms o else ([],aloL o)
theorem perm_small' {l m:List Int} (h:l.Perm m) (hs:Small m):Small l:=⟨by rw [h.length_eq];exact hs.1,fun x hx=>hs.2 x (h.mem_iff.1 hx)⟩
set_option maxHeartbeats 2000000 in
theorem run_Make {base:Nat} {h:Heap} {v mv:AVal} {o:List Int} {ms:List (Int × Int)} (hb:base≤h.length) (hI:Ints h v o) (hM:Rows encM h mv ms) (hml:ms.length≤100000) :
  Ret prog raw base (.fn 26 [] []) [v,mv] h (fun w H=>Ext h H∧∃ x,w=.tuple [x,.int .i64 (makE o ms).2]∧OwnE encI 3 h.length H x (makE o ms).1):=by
 have ha:=fun base=>run_alone (base:=base) hI
 have hv1:=hI.one
 have hm1:=hM.one
 by_cases c:aloL o=0
 ·obtain ⟨c1,c2,c3⟩:=aloL_iff.1 c
  rw [c] at ha
  have hsm:=small_ints hI (by omega)
  obtain ⟨n,en⟩:∃ n,n=o.length:=⟨_,rfl⟩
  have r:makE o ms=makF n ms o:=by unfold makE;rw [if_pos c,en]
  rw [r]
  obtain ⟨v1,H1,e1,x1,o1⟩:=run_cloneE (base:=base) hI hsm
  have hl1:=x1.len
  have ov1:=o1.one
  have hlm:=(hM.ext x1).len (P:=prog) Fc.el33
  refine ret_raw func26 rfl (by kernel_rfl) ?_
  have hsp:=@Nat.succ_ne_zero;repeat' (first|simp (disch:=first|exact dqb|fail) only [go_sem,↓reduceIte,hsp,ha,eq_self,e1,hlm]|refine WP_drw ?_|refine cnd_intro (fun hsp=>?_) fun hsp=>?_)
  refine WP_count [(4,9),(19,42)] 0 ms.length (Nat.zero_le _) (fun _ i fr K=>fr 19=.int .i64 (i:Int)∧Ext h K∧∃ o' w,fr 7=w∧OwnE encI 3 h.length K w o'∧o'.Perm o∧makF n ms o=makF n (ms.drop i) o') ?_ ?_ ?_
  ·exact ⟨by (simp (disch:=first|exact dqb|fail) only [go_sem,↓reduceIte,Int.natCast_zero];first|done|rfl),x1,o,v1,by simp (disch:=first|exact dqb|fail) only [go_sem,↓reduceIte],o1,.refl _,rfl⟩
  ·rintro i fr K hi0 hi hA ⟨r19,xK,o',w,r7,hO,hp,hF⟩
   have p17:=hA 17 rfl
   have p18:=hA 18 rfl
   try simp (disch:=first|exact dqb|fail) only [go_sem,↓reduceIte] at p17 p18
   have hlt:((i:Int)<(ms.length:Int))=True:=eq_true (by omega)
   obtain ⟨⟨a,b⟩,em⟩:∃ m,ms[i]=m:=⟨_,rfl⟩
   have hx:ms[i]?=some (a,b):=by rw [List.getElem?_eq_getElem hi,em]
   have hMK:=hM.ext xK
   have ad:=hMK.addr (P:=prog) (i:=(i:Int)) Fc.el33 Fc.ar33 (by omega) (by omega)
   rw [Int.toNat_natCast] at ad
   have ld:=hMK.load (P:=prog) Fc.ty36 hx
   simp only [encM] at ad ld
   have hw1:=hO.one
   have hKl:=xK.len
   have hol:o'.length=n:=by rw [hp.length_eq,en]
   obtain ⟨G,eG⟩:∃ G,G=K++[mvB a b]:=⟨_,rfl⟩
   have xG:Ext K G:=by rw [eG];exact .app .refl
   have gG:G[K.length]?=some (mvB a b):=by rw [eG];exact get_eq rfl
   have hGl:=xG.len
   have iG:=(ownE_ints hO (perm_small' hp hsm)).ext xG
   have lG:=lenI iG
   have hst:makF n (ms.drop i) o'=if (0≤a∧a<(n:Int))∧(0≤b∧b<(n:Int)) then makF n (ms.drop (i+1)) (mvL o' a.toNat b.toNat) else ([],1):=by
    rw [List.drop_eq_getElem_cons hi,em,makF]
   unfold mvB at eG gG
   by_cases q1:0≤a∧a<(n:Int)
   ·have t1:decide (0≤a∧a≤(o'.length:Int)-1)=true:=decide_eq_true (by omega)
    by_cases q2:0≤b∧b<(n:Int)
    ·have t2:decide (0≤b∧b≤(o'.length:Int)-1)=true:=decide_eq_true (by omega)
     rw [if_pos ⟨q1,q2⟩] at hst
     obtain ⟨a',rfl⟩:=Int.eq_ofNat_of_zero_le q1.1
     obtain ⟨b',rfl⟩:=Int.eq_ofNat_of_zero_le q2.1
     rw [Int.toNat_natCast,Int.toNat_natCast] at hst
     obtain ⟨w2,H2,e2,x2,o2⟩:=run_made (base:=base) (f:=a') (t:=b') (by omega) iG (by omega) (by omega) (by omega)
     have ow2:=o2.one
     have hsp:=@Nat.succ_ne_zero;repeat' (first|simp (disch:=first|exact dqb|fail) only [go_sem,↓reduceIte,hsp,r19,r7,p17,p18,hlt,ad,ld,← eG,gG,lG,t1,t2,e2]|refine WP_drw ?_|refine cnd_intro (fun hsp=>?_) fun hsp=>?_)
     refine ⟨agq,by omega,xK.trans (xG.trans x2),_,w2,rfl,OwnE.low (b':=h.length) (.inl o2) (by omega),(mvL_perm (by omega) (by omega)).trans hp,by rw [hF,hst]⟩
    ·have t2:decide (0≤b∧b≤(o'.length:Int)-1)=false:=decide_eq_false (by omega)
     rw [if_neg (fun q=>q2 q.2)] at hst
     have hsp:=@Nat.succ_ne_zero;repeat' (first|simp (disch:=first|exact dqb|fail) only [go_sem,↓reduceIte,hsp,r19,r7,p17,p18,hlt,ad,ld,← eG,gG,lG,t1,t2]|refine WP_drw ?_|refine cnd_intro (fun hsp=>?_) fun hsp=>?_)
     exact ⟨xK.trans xG,_,by rw [hF,hst],by rw [hF,hst];exact .inl Own.nil⟩
   ·have t1:decide (0≤a∧a≤(o'.length:Int)-1)=false:=decide_eq_false (by omega)
    rw [if_neg (fun q=>q1 q.1)] at hst
    have hsp:=@Nat.succ_ne_zero;repeat' (first|simp (disch:=first|exact dqb|fail) only [go_sem,↓reduceIte,hsp,r19,r7,p17,p18,hlt,ad,ld,← eG,gG,lG,t1]|refine WP_drw ?_|refine cnd_intro (fun hsp=>?_) fun hsp=>?_)
    exact ⟨xK.trans xG,_,by rw [hF,hst],by rw [hF,hst];exact .inl Own.nil⟩
  ·rintro fr K hA ⟨r19,xK,o',w,r7,hO,hp,hF⟩
   have p17:=hA 17 rfl
   have p18:=hA 18 rfl
   try simp (disch:=first|exact dqb|fail) only [go_sem,↓reduceIte] at p17 p18
   have hlt:((ms.length:Int)<(ms.length:Int))=False:=eq_false (by omega)
   have hw1:=hO.one
   rw [List.drop_length,makF] at hF
   have hsp:=@Nat.succ_ne_zero;repeat' (first|simp (disch:=first|exact dqb|fail) only [go_sem,↓reduceIte,hsp,r19,r7,p17,p18,hlt]|refine WP_drw ?_|refine cnd_intro (fun hsp=>?_) fun hsp=>?_)
   exact ⟨xK,_,by rw [hF],by rw [hF];exact hO⟩
 ·have t1:(aloL o=0)=False:=eq_false c
  have r:makE o ms=([],aloL o):=by unfold makE;rw [if_neg c]
  rw [r]
  refine ret_raw func26 rfl (by kernel_rfl) ?_
  have hsp:=@Nat.succ_ne_zero;repeat' (first|simp (disch:=first|exact dqb|fail) only [go_sem,↓reduceIte,hsp,ha,t1]|refine WP_drw ?_|refine cnd_intro (fun hsp=>?_) fun hsp=>?_)
  exact ⟨.refl,_,rfl,.inl Own.nil⟩
end Go.AM
namespace Go.AM
open Go.Proofs.Try
attribute [-go_sem] put_ne put_same
attribute [local go_sem ↓] put_if
end Go.AM
namespace Go.AM
end Go.AM
namespace Go.AM
open Go.Proofs.Try
attribute [-go_sem] put_ne put_same
attribute [local go_sem ↓] put_if
def wvL (L:Lac) (o:List Int) (n:Nat):List Int:=lst (fun t=>L.C.getD (o.getD (t % o.length) 0).toNat 0) n
def wvE (L:Lac) (o:List Int) (n:Int):List Int × Int:=if lcdE L o=0 then (if 0≤n∧n≤999 then (wvL L o n.toNat,0) else ([],3)) else ([],lcdE L o)
def trdE (L:Lac) (o ring:List Int):List Int × Int :=
 if lcdE L o ≠ 0 then ([],lcdE L o) else if ring.length<2 then ([],2) else if ¬ (ring.all fun x=>decide (0≤x∧x≤(L.C.length:Int)-1))=true then ([],1) else if twB ring=true then ([],5) else
 if (xplD L o o.length && xplD L (trnL o ring) o.length)=true then (trnL o ring,0) else ([],8)
end Go.AM
namespace Go.AM
open Go.Proofs.Try
attribute [-go_sem] put_ne put_same
attribute [local go_sem ↓] put_if
def IsRing (L:Lac) (l:List Int):Prop:=∃ o1 o2 a r,(fnd L)[0]?=some o1∧(fnd L)[1]?=some o2∧a<L.C.length∧o1.getD a 0 ≠ o2.getD a 0∧0<r∧itr o1 o2 a r=a∧(∀ i,0<i→i<r→itr o1 o2 a i ≠ a)∧l=rngL o1 o2 a r
def rngE (L:Lac):Int:=if (fndE L).2=0 then (if (fnd L).length=1 then 6 else 0) else (fndE L).2
end Go.AM
namespace Go.AM
open Go.Proofs.Try
section
variable {α:Type} {E:Enc α} {P:Program} {base:Nat} {h:Heap} {v:AVal} {l:List α} {t e:TypeId} {zs:List AVal}
theorem app_empE (hR:Rows E h v l) (hl:l ≠ []) (hs:∀ y,(E.cells y).all AVal.scalar=true) (hsz:l.length<2147483648) (ht:elS P t=some (e,E.z,zs)) :
  appendA P base h t .emp v=some (.slice (some ⟨h.length,0,0⟩) l.length l.length,h++[rowE E e l 0]):=by
 have hn:l.length ≠ 0:=fun q=>hl (List.eq_nil_of_length_eq_zero q)
 simp only [appendA,ht,hR.lenA,hR.firstN,flat_scalar hs,if_true]
 rw [if_neg hn,if_pos (show l.length<2 ^ 31 by omega)]
 first|done|rfl
end
end Go.AM
namespace Go.AM
open Go.Proofs.Try
attribute [-go_sem] put_ne put_same
attribute [local go_sem ↓] put_if
theorem run_dupR {base:Nat} {h:Heap} {v:AVal} {l:List Rw3} (hb:base≤h.length) (hR:Rows encR h v l) (hl:l.length≤1000) :
  Ret prog raw base (.fn 96 [] []) [v] h (fun w H=>Ext h H∧OwnE encR 70 h.length H w l):=by
 have ho:=hR.one
 have hn:=hR.len Fc.el42
 refine ret_raw func96 rfl (by kernel_rfl) ?_
 by_cases hl0:l=[]
 ·subst hl0
  have ha:=fun base=>app_none (base:=base) hR Fc.el42
  have hsp:=@Nat.succ_ne_zero;repeat' (first|simp (disch:=first|exact dqb|fail) only [go_sem,↓reduceIte,hsp,hn,mk_none Fc.el42,ha,List.length_nil,Int.natCast_zero]|refine WP_drw ?_|refine cnd_intro (fun hsp=>?_) fun hsp=>?_)
  exact ⟨.refl,.inr ⟨rfl,rfl⟩⟩
 ·have hl1:0<l.length:=List.length_pos_iff.2 hl0
  have hm:=mk_room (h:=h) (n:=l.length) Fc.el42 hl1 (by omega)
  have ha:=app_fill (base:=base) hR Fc.el42 rfl encR_sc rfl hb
  have hsp:=@Nat.succ_ne_zero;repeat' (first|simp (disch:=first|exact dqb|fail) only [go_sem,↓reduceIte,hsp,hn,hm,ha]|refine WP_drw ?_|refine cnd_intro (fun hsp=>?_) fun hsp=>?_)
  exact ⟨.app .refl,.inl (.inr ⟨h.length,0,rfl,get_eq rfl,Nat.le_refl _,hl1⟩)⟩
theorem run_own {base:Nat} {h:Heap} {v:AVal} {L:Lac} (hb:base≤h.length) (hL:LacAt h v L) (hc:L.C.length≤1000) (hl:L.R.length≤1000) :
  Ret prog raw base (.fn 30 [] []) [v] h (fun w H=>Ext h H∧∃ cw rw',w=.agg [.int .i64 L.T,cw,rw']∧OwnE encI 3 h.length H cw L.C∧OwnE encR 70 h.length H rw' L.R):=by
 obtain ⟨cv,rv,rfl,hC,hR⟩:=hL
 have o1:=hC.one
 have o2:=hR.one
 obtain ⟨G,eG⟩:∃ G,G=h++[lacB L.T cv rv]++[lacB 0 (.slice none 0 0) (.slice none 0 0)]:=⟨_,rfl⟩
 have xG:Ext h G:=by rw [eG];exact .app (.app .refl)
 have lG:G.length=h.length+2:=by rw [eG];simp
 have g0:G[h.length]?=some (lacB L.T cv rv):=by rw [eG];exact get_app (get_eq rfl)
 have g00:G[h.length+1]?=some (lacB 0 (.slice none 0 0) (.slice none 0 0)):=by rw [eG];exact get_eq (by simp)
 obtain ⟨cw,H1,e1,x1,oC⟩:=run_dupI (base:=base) (by omega) (hC.ext xG) hc
 have l1:=x1.len
 obtain ⟨rw',H2,e2,x2,oR⟩:=run_dupR (base:=base) (by omega) (hR.ext (xG.trans x1)) hl
 have l2:=x2.len
 have g1:=x1.get g0
 have g2:=x2.get g1
 have g12:=(x1.trans x2).get g00
 have ow1:=oC.one
 have ow2:=oR.one
 have xf:Ext h H2:=(xG.trans x1).trans x2
 unfold lacB at eG g0 g00 g1 g2 g12
 refine ret_raw func30 rfl (by kernel_rfl) ?_
 have hsp:=@Nat.succ_ne_zero;repeat' (first|simp (disch:=first|exact dqb|fail) only [go_sem,↓reduceIte,hsp,← eG,g0,e1,g1,e2,g2,g12]|refine WP_drw ?_|refine cnd_intro (fun hsp=>?_) fun hsp=>?_)
 exact ⟨xf.set (by omega),cw,rw',rfl,((oC.ext x2).setBox g12).low (by omega),(oR.setBox g12).low (by omega)⟩
end Go.AM
namespace Go.AM
open Go.Proofs.Try
attribute [-go_sem] put_ne put_same
attribute [local go_sem ↓] put_if
def moreR (L:Lac) (r:Rw3):Lac:=⟨L.T,L.C,L.R++[r]⟩
def lac0:Lac:=⟨0,[],[]⟩
def seeE (L:Lac) (r:Rw3):Lac × Int:=if chkL L=0 then (if L.R.length=12 then (lac0,9) else if chkL (moreR L r)=0 then (moreR L r,0) else (lac0,chkL (moreR L r))) else (lac0,chkL L)
def OwnC (b:Nat) (H:Heap) (v:AVal) (L:Lac):Prop:=∃ cv rv,v=.agg [.int .i64 L.T,cv,rv]∧OwnE encI 3 b H cv L.C∧OwnE encR 70 b H rv L.R
theorem OwnC.at {b:Nat} {H:Heap} {v:AVal} {L:Lac} (x:OwnC b H v L) (hs:Small L.C) (hl:L.R.length≤1000000):LacAt H v L:=by
 obtain ⟨cv,rv,h1,h2,h3⟩:=x
 exact ⟨cv,rv,h1,ownE_ints h2 hs,h3.rows (by omega)⟩
theorem lac_small {L:Lac} (h:chkL L=0):Small L.C:=by
 obtain ⟨kT,kn,km,kc,kr,kd⟩:=chkL_iff.1 h
 refine ⟨by omega,fun x hx=>?_⟩
 have h1:=kc x hx
 have h2:(2:Int) ^ L.T.toNat≤2 ^ 8:=by exact_mod_cast Nat.pow_le_pow_right (by decide) (show L.T.toNat≤8 by omega)
 omega
end Go.AM
namespace Go.AM
open Go.Proofs.Try
attribute [-go_sem] put_ne put_same
attribute [local go_sem ↓] put_if
end Go.AM
namespace Go.AM
open Go.Proofs.Try
attribute [-go_sem] put_ne put_same
attribute [local go_sem ↓] put_if
def mndE (o:List Int):List (Int × Int) × Int:=if aloL o=0 then (mndL o,0) else ([],aloL o)
theorem mndN_succ {s:MndS} {k:Nat}:mndN s (k+1)=mndS (mndN s k) (k:Int):=rfl
end Go.AM
namespace Go.AM
open Go.Proofs.Try
attribute [-go_sem] put_ne put_same
attribute [local go_sem ↓] put_if
structure PilAt (b:Nat) (H:Heap) (u:AVal) (vs:List AVal) (ps:List (List Int)):Prop where
 own:Own encZ 25 b H u vs
 len:vs.length=ps.length
 el:∀ (i:Nat) x t,vs[i]?=some x→ps[i]?=some t→Own encI 3 b H x t
 apart:∀ (i j:Nat) x y,i ≠ j→vs[i]?=some x→vs[j]?=some y→Asun x y
end Go.AM
namespace Go.AM
open Go.Proofs.Try
attribute [-go_sem] put_ne put_same
attribute [local go_sem ↓] put_if
def pilE (o:List Int):List (List Int) × Int:=if aloL o=0 then (pilN o o.length,0) else ([],aloL o)
end Go.AM
namespace Go.AM
open Go.Proofs.Try
attribute [-go_sem] put_ne put_same
attribute [local go_sem ↓] put_if
end Go.AM
namespace Go.AM
open Go.Proofs.Try
attribute [-go_sem] put_ne put_same
attribute [local go_sem ↓] put_if
def badAt (o pile:List Int) (i:Nat):Bool :=
 !decide (0≤pile.getD i 0∧pile.getD i 0≤(o.length:Int)-1) || (decide (0<i) && (decide (pile.getD i 0≤pile.getD (i-1) 0) || decide (o.getD (pile.getD i 0).toNat 0 ≥ o.getD (pile.getD (i-1) 0).toNat 0)))
def pilB (o pile:List Int):Bool:=decide (pile ≠ []) && (List.range pile.length).all fun i=>!badAt o pile i
def shwE (o:List Int) (ps:List (List Int)):Int × Int :=
 if aloL o ≠ 0 then (0,aloL o) else if ps.all (pilB o)=false then (0,8) else if ps.flatten.length ≠ o.length ∨ twB ps.flatten=true then (0,8) else ((ps.length:Int),0)
end Go.AM
namespace Go.AM
theorem pair_at {α:Type} {R:α→α→Prop} {l:List α} (h:l.Pairwise R) {i j:Nat} (hij:i<j) (hj:j<l.length):R (l[i]'(by omega)) l[j]:=List.pairwise_iff_getElem.1 h i j (by omega) hj hij
theorem upto_nd (n:Nat):(upto n).Nodup:=(upto_sorted n).imp fun h=>by omega
theorem prmB_ord {n:Nat} {o:List Int} (h:Ord n o):prmB o n=true:=by
 unfold prmB
 rw [decide_eq_true h.1,Bool.true_and,List.all_eq_true]
 intro x hx
 exact decide_eq_true (ord_all h (upto_mem.1 hx))
end Go.AM
namespace Go.AM
open Go.Proofs.Try
attribute [-go_sem] put_ne put_same
attribute [local go_sem ↓] put_if
theorem run_xpl1 {base A B:Nat} {h:Heap} {T:Int} {cv rv ov:AVal} {L:Lac} {o:List Int} {r:Rw3} (ga:h[A]?=some (lacB T cv rv)) (gb:h[B]?=some (lB ov)) (hC:Ints h cv L.C) (hO:Ints h ov o) (hc:LacOk L) (ho:Ord L.C.length o) (hr:r ∈ L.R) :
  callL prog raw base (.fn 111 [] [.ptr (some ⟨A,0,0⟩),.ptr (some ⟨B,0,0⟩)]) [.agg (encR.cells r)] h=some (.bool (!decide ((L.C.getD (o.getD (r.1.toNat % L.C.length) 0).toNat 0).toNat &&& r.2.1.toNat=r.2.2.toNat)),h):=by
 have lA:=lt_of_get ga
 have lB':=lt_of_get gb
 obtain ⟨k1,k2,k3,k4⟩:=hc.r r hr
 have hp:(2:Int) ^ L.T.toNat≤2 ^ 8:=by exact_mod_cast Nat.pow_le_pow_right (by decide) (show L.T.toNat≤8 by have:=hc.T;omega)
 obtain ⟨n,en⟩:∃ n,n=L.C.length:=⟨_,rfl⟩
 have hn:=hc.n
 rw [← en] at ho hn ⊢
 have hol:=ho.1
 obtain ⟨G,eG⟩:∃ G,G=h++[rwB r]:=⟨_,rfl⟩
 have xG:Ext h G:=by rw [eG];exact .app .refl
 have gr:G[h.length]?=some (rwB r):=by rw [eG];exact get_eq rfl
 have gaG:=xG.get ga
 have gbG:=xG.get gb
 have iO:=hO.ext xG
 have iC:=hC.ext xG
 have hlo:=lenI iO
 rw [hol] at hlo
 have hrem:=remN (x:=r.1) (n:=n) k1.1 (by omega)
 obtain ⟨j,ej⟩:∃ j,j=r.1.toNat % n:=⟨_,rfl⟩
 have hj:j<n:=by rw [ej];exact Nat.mod_lt _ (by omega)
 rw [← ej] at hrem ⊢
 have aj:=adrI (i:=(j:Int)) (by omega) iO (by omega)
 rw [Int.toNat_natCast] at aj
 have lj:=loadI iO (i:=j) (by omega)
 have hk:=ho.2.1 _ (getD_mem (l:=o) (i:=j) (by omega))
 obtain ⟨k,ek⟩:=Int.eq_ofNat_of_zero_le hk.1
 rw [ek] at lj hk ⊢
 rw [Int.toNat_natCast]
 have ak:=adrI (i:=(k:Int)) (by omega) iC (by omega)
 rw [Int.toNat_natCast] at ak
 have lk:=loadI iC (i:=k) (by omega)
 have hck:=hc.c _ (getD_mem (l:=L.C) (i:=k) (by omega))
 obtain ⟨c,ec⟩:=Int.eq_ofNat_of_zero_le hck.1
 rw [ec] at lk hck ⊢
 obtain ⟨mk,em⟩:=Int.eq_ofNat_of_zero_le k2.1
 obtain ⟨sh,es⟩:=Int.eq_ofNat_of_zero_le k3.1
 rw [em] at k2
 rw [em,es,Int.toNat_natCast,Int.toNat_natCast,Int.toNat_natCast]
 have ha:=andN (t:=3) (a:=c) (b:=mk) (by omega) (by omega)
 have eG':h++[(⟨.cells [.int .i64 r.1,.int .i64 (mk:Int),.int .i64 (sh:Int)] 70 false false,0⟩:ABlk)]=G:=by rw [eG];unfold rwB;rw [em,es]
 have gr':=gr
 unfold rwB at gr'
 rw [em,es] at gr'
 unfold lacB at gaG
 unfold lB at gbG
 simp only [encR]
 rw [em,es]
 refine callL_run func111 rfl rfl ?_
 have hsp:=@Nat.succ_ne_zero;repeat' (first|simp (disch:=first|exact dqb|fail) only [go_sem,↓reduceIte,hsp,eG',gaG,gbG,gr',hlo,hrem,aj,lj,ak,lk,ha]|refine WP_drw ?_|refine cnd_intro (fun hsp=>?_) fun hsp=>?_)
 refine fB ?_ xG
 by_cases q:c &&& mk=sh
 ·rw [decide_eq_true q];simp;omega
 ·rw [decide_eq_false q];simp;omega
theorem run_explains {base:Nat} {h:Heap} {v ov:AVal} {L:Lac} {o:List Int} (hL:LacAt h v L) (hO:Ints h ov o) (hc:chkL L=0) (ho:Ord L.C.length o) :
  callL prog raw base (.fn 48 [] []) [v,ov] h=some (.bool (xplD L o o.length),h):=by
 obtain ⟨cv,rv,rfl,hC,hR⟩:=hL
 have hk:=chkL_iff.1 hc
 have o1:=hC.one
 have o2:=hR.one
 have o3:=hO.one
 obtain ⟨G,eG⟩:∃ G,G=h++[lacB L.T cv rv]++[lB ov]:=⟨_,rfl⟩
 have xG:Ext h G:=by rw [eG];exact .app (.app .refl)
 have g0:G[h.length]?=some (lacB L.T cv rv):=by rw [eG];exact get_app (get_eq rfl)
 have g1:G[h.length+1]?=some (lB ov):=by rw [eG];exact get_eq (by simp)
 have hlc:=lenI (hC.ext xG)
 have hpm:=fun base=>run_permutes (base:=base) (n:=L.C.length) (hO.ext xG)
 rw [prmB_ord ho] at hpm
 have han:=fun base=>anyF_R (base:=base) (h:=G) (v:=rv) (g:=.fn 111 [] [.ptr (some ⟨h.length,0,0⟩),.ptr (some ⟨h.length+1,0,0⟩)]) (l:=L.R) (fun r=>!decide ((L.C.getD (o.getD (r.1.toNat % L.C.length) 0).toNat 0).toNat &&& r.2.1.toNat=r.2.2.toNat)) (hR.ext xG) ⟨rfl,rfl,rfl⟩ (fun base x hx=>run_xpl1 g0 g1 (hC.ext xG) (hO.ext xG) hk ho hx)
 have hres:(!L.R.any fun r=>!decide ((L.C.getD (o.getD (r.1.toNat % L.C.length) 0).toNat 0).toNat &&& r.2.1.toNat=r.2.2.toNat))=xplD L o o.length:=by
  rw [Bool.eq_iff_iff,xplD_iff,xpl_rows (by have:=hk.n;omega) ho.1]
  simp
 obtain ⟨b,eb⟩:∃ b,b=L.R.any fun r=>!decide ((L.C.getD (o.getD (r.1.toNat % L.C.length) 0).toNat 0).toNat &&& r.2.1.toNat=r.2.2.toNat):=⟨_,rfl⟩
 rw [← eb] at han hres
 unfold lacB lB at eG
 unfold lacB at g0
 unfold lB at g1
 refine callL_run func48 rfl rfl ?_
 have hsp:=@Nat.succ_ne_zero;repeat' (first|simp (disch:=first|exact dqb|fail) only [go_sem,↓reduceIte,hsp,← eG,g0,g1,hlc,hpm,han]|refine WP_drw ?_|refine cnd_intro (fun hsp=>?_) fun hsp=>?_)
 exact fB hres xG
def looks (L:Lac) (real ps:List Int):List Rw3:=ps.map fun p=>(p,2 ^ L.T.toNat-1,L.C.getD (real.getD p.toNat 0).toNat 0)
def shwL (L:Lac) (real ps:List Int):Lac:=⟨L.T,L.C,L.R++looks L real ps⟩
theorem snocR {b base:Nat} {A:Heap} {w:AVal} {l:List Rw3} {r:Rw3} (hO:OwnE encR 70 b A w l) (hb:base≤b) (hbh:b≤A.length) (hl:l.length≤1000000) :
  ∃ w' H,appendA prog base (A++[rowE encR 70 [r] 0]) 42 w (.slice (some ⟨A.length,0,0⟩) 1 1)=some (w',H)∧Own encR 70 b H w' (l++[r])∧A.length≤H.length∧(∀ G,G.length≤b→Ext G A→Ext G H)∧One w'∧KeepO encR 70 A H:=by
 obtain ⟨B,eB⟩:∃ B,B=A++[rowE encR 70 [r] 0]:=⟨_,rfl⟩
 have xB:Ext A B:=by rw [eB];exact .app .refl
 have lB':B.length=A.length+1:=by rw [eB];simp
 have hx:Rows encR B (.slice (some ⟨A.length,0,0⟩) 1 1) [r]:=Rows.own (by rw [eB];exact get_eq rfl) rfl (by simp)
 rw [← eB]
 rcases hO with hO|⟨rfl,rfl⟩
 ·obtain ⟨w',H,a1,a2,a3,a4,a5,a6⟩:=(hO.ext xB).appendRX (P:=prog) (base:=base) (t:=42) hx Fc.el42 encR_sc hb (by omega) (by simp) (by simp;omega)
  have a6:KeepO encR 70 B H:=a6
  exact ⟨w',H,a1,a2,by omega,fun G h1 h2=>a4 G h1 (h2.trans xB),a5,fun i y hi hy=>a6 i y (xB.get hi) hy⟩
 ·have:=app_empE (base:=base) hx (by simp) encR_sc (by simp) Fc.el42
  exact ⟨_,_,this,.inr ⟨B.length,0,rfl,get_eq rfl,by omega,by simp⟩,by simp;omega,fun G _ q=>(q.trans xB).trans (.app .refl),⟨rfl,rfl,rfl⟩,fun i y hi _=>get_app (xB.get hi)⟩
theorem stL46 {base:Nat} {l:List Oper} {s:St} {Q:AExit→St→Prop}:WP prog raw base (.region 9 l.toArray true) s Q=WPS prog raw base (.region 9 l.toArray true) s Q:=WP_stop
attribute [local go_sem ↓ 3000] stL46
set_option maxHeartbeats 2000000 in
theorem run_shown {base:Nat} {h:Heap} {v ov pv:AVal} {L:Lac} {o ps:List Int} (hb:base≤h.length) (hL:LacAt h v L) (hO:Ints h ov o) (hP:Ints h pv ps) (hT:1≤L.T∧L.T≤8) (hc:L.C.length≤1000) (hl:L.R.length≤1000) (ho:Ord L.C.length o) (hp:∀ p ∈ ps,0≤p∧p<(L.C.length:Int)) (hpl:ps.length≤1000) :
  Ret prog raw base (.fn 64 [] []) [v,ov,pv] h (fun w H=>Ext h H∧∃ x,w=.tuple [x,.bool (decide (L.R.length+ps.length≤12))]∧OwnC h.length H x (shwL L o ps)):=by
 obtain ⟨cv,rv,rfl,hC,hR⟩:=hL
 have hL0:LacAt h (.agg [.int .i64 L.T,cv,rv]) L:=⟨cv,rv,rfl,hC,hR⟩
 have o1:=hC.one
 have o2:=hR.one
 have o3:=hO.one
 have o4:=hP.one
 obtain ⟨G,eG⟩:∃ G,G=h++[lacB L.T cv rv]++[lacB 0 (.slice none 0 0) (.slice none 0 0)]:=⟨_,rfl⟩
 have xG:Ext h G:=by rw [eG];exact .app (.app .refl)
 have lG:G.length=h.length+2:=by rw [eG];simp
 have g0:G[h.length]?=some (lacB L.T cv rv):=by rw [eG];exact get_app (get_eq rfl)
 have g00:G[h.length+1]?=some (lacB 0 (.slice none 0 0) (.slice none 0 0)):=by rw [eG];exact get_eq (by simp)
 obtain ⟨_,H1,e1,x1,cw,rw1,rfl,oC,oR⟩:=run_own (base:=base) (by omega) (hL0.ext xG) hc hl
 have l1:=x1.len
 have oc1:=oC.one
 have or1:=oR.one
 have g01:=x1.get g0
 have g11:=x1.get g00
 obtain ⟨H2,eH2⟩:∃ H2,H2=H1.set h.length (lacB L.T cw rw1):=⟨_,rfl⟩
 have x2:Ext h H2:=by rw [eH2];exact (xG.trans x1).set (Nat.le_refl _)
 have l2:H2.length=H1.length:=by rw [eH2,List.length_set]
 have g02:H2[h.length]?=some (lacB L.T cw rw1):=by rw [eH2,List.getElem?_set_self (by omega)]
 have g12:H2[h.length+1]?=some (lacB 0 (.slice none 0 0) (.slice none 0 0)):=by rw [eH2,List.getElem?_set_ne (by omega)];exact g11
 have oC2:OwnE encI 3 (h.length+2) H2 cw L.C:=by rw [eH2];exact (oC.setBox g01).low (by omega)
 have oR2:OwnE encR 70 (h.length+2) H2 rw1 L.R:=by rw [eH2];exact (oR.setBox g01).low (by omega)
 have hsC:Small L.C:=⟨by omega,hC.1.2⟩
 have hlp:=lenI (hP.ext x2)
 have sh:=shl_one (w:=L.T) (by omega) (by omega)
 have hp2:(2:Int) ^ L.T.toNat≤2 ^ 8:=by exact_mod_cast Nat.pow_le_pow_right (by decide) (show L.T.toNat≤8 by omega)
 have hp1:(1:Int)≤2 ^ L.T.toNat:=by exact_mod_cast Nat.one_le_two_pow
 obtain ⟨W,eW⟩:∃ W:Int,W=2 ^ L.T.toNat:=⟨_,rfl⟩
 rw [← eW] at sh hp2 hp1
 have hol:=ho.1
 unfold lacB at eG g01 eH2
 refine ret_raw func64 rfl (by kernel_rfl) ?_
 have g0':=g0
 unfold lacB at g0'
 have hsp:=@Nat.succ_ne_zero;repeat' (first|simp (disch:=first|exact dqb|fail) only [go_sem,↓reduceIte,hsp,← eG,g0',e1,g01,← eH2,hlp]|refine WP_drw ?_|refine cnd_intro (fun hsp=>?_) fun hsp=>?_)
 refine WP_count [(7,9),(14,46)] 0 ps.length (Nat.zero_le _) (fun _ i fr K=>fr 14=.int .i64 (i:Int)∧Ext h K∧h.length+2≤K.length∧K[h.length+1]?=some (lacB 0 (.slice none 0 0) (.slice none 0 0))∧OwnE encI 3 (h.length+2) K cw L.C∧∃ w,K[h.length]?=some (lacB L.T cw w)∧OwnE encR 70 (h.length+2) K w (L.R++looks L o (ps.take i))) ?_ ?_ ?_
 ·exact ⟨by (simp (disch:=first|exact dqb|fail) only [go_sem,↓reduceIte,Int.natCast_zero];first|done|rfl),x2,by omega,g12,oC2,rw1,g02,by rw [List.take_zero];simpa [looks] using oR2⟩
 ·rintro i fr K hi0 hi hA ⟨r14,xK,lK,gK1,oCK,w,gK,oRK⟩
  have q1:=hA 1 rfl
  have q3:=hA 3 rfl
  have q6:=hA 6 rfl
  have q12:=hA 12 rfl
  have q13:=hA 13 rfl
  try simp (disch:=first|exact dqb|fail) only [go_sem,↓reduceIte] at q1 q3 q6 q12 q13
  have hlt:((i:Int)<(ps.length:Int))=True:=eq_true (by omega)
  have ow:=oRK.one
  have iP:=hP.ext xK
  have iO:=hO.ext xK
  have iC:=ownE_ints oCK hsC
  have hlo:=lenI iO
  rw [hol] at hlo
  have ai:=adrI (i:=(i:Int)) (by omega) iP (by omega)
  rw [Int.toNat_natCast] at ai
  have li:=loadI iP hi
  have hpi:=hp _ (getD_mem hi)
  obtain ⟨p,ep⟩:=Int.eq_ofNat_of_zero_le hpi.1
  rw [ep] at li hpi
  have s1:((p:Int)<0)=False:=eq_false (by omega)
  have s2:((p:Int) ≥ (L.C.length:Int))=False:=eq_false (by omega)
  have ap:=adrI (i:=(p:Int)) (by omega) iO (by omega)
  rw [Int.toNat_natCast] at ap
  have lp:=loadI iO (i:=p) (by omega)
  have hk:=ho.2.1 _ (getD_mem (l:=o) (i:=p) (by omega))
  obtain ⟨k,ek⟩:=Int.eq_ofNat_of_zero_le hk.1
  rw [ek] at lp hk
  have ak:=adrI (i:=(k:Int)) (by omega) iC (by omega)
  rw [Int.toNat_natCast] at ak
  have lk:=loadI iC (i:=k) (by omega)
  obtain ⟨c,ec⟩:∃ c,c=L.C.getD k 0:=⟨_,rfl⟩
  rw [← ec] at lk
  obtain ⟨w',K2,ea,oW,lW,eW2,oneW,kW⟩:=snocR (base:=base) (r:=((p:Int),W-1,c)) oRK (by omega) lK (by simp [looks];omega)
  have bs:∀ {lit:Bool},bsA prog lit K 42 1 [(0,.agg [.int .i64 (p:Int),.int .i64 (W-1),.int .i64 c])]=some (.slice (some ⟨K.length,0,0⟩) 1 1,K++[rowE encR 70 [((p:Int),W-1,c)] 0]):=fun {lit}=>bsR1 (r:=((p:Int),W-1,c))
  have gK2:=kW.box gK
  have gK12:=kW.box gK1
  have hlk:looks L o (ps.take (i+1))=looks L o (ps.take i)++[((p:Int),W-1,c)]:=by
   unfold looks
   rw [take_succ' hi,List.map_append,ep,eW,ec]
   simp only [List.map_cons,List.map_nil,Int.toNat_natCast,ek]
  unfold lacB at gK gK2
  have hsp:=@Nat.succ_ne_zero;repeat' (first|simp (disch:=first|exact dqb|fail) only [go_sem,↓reduceIte,hsp,r14,q1,q3,q6,q12,q13,hlt,ai,li,s1,s2,hlo,gK,sh,ap,lp,ak,lk,bs,ea,gK2]|refine WP_drw ?_|refine cnd_intro (fun hsp=>?_) fun hsp=>?_)
  refine ⟨agq,by omega,(eW2 _ (by omega) xK).set (Nat.le_refl _),by omega,gK12,(kW.ownE oCK (by decide)).setBox gK2,w',rfl,?_⟩
  rw [hlk,← List.append_assoc]
  exact OwnE.setBox (.inl oW) gK2
 ·rintro fr K hA ⟨r14,xK,lK,gK1,oCK,w,gK,oRK⟩
  have q1:=hA 1 rfl
  have q3:=hA 3 rfl
  have q6:=hA 6 rfl
  have q12:=hA 12 rfl
  have q13:=hA 13 rfl
  try simp (disch:=first|exact dqb|fail) only [go_sem,↓reduceIte] at q1 q3 q6 q12 q13
  have hlt:((ps.length:Int)<(ps.length:Int))=False:=eq_false (by omega)
  rw [List.take_length] at oRK
  have ow:=oRK.one
  have hlR:lenOpA prog K 42 w=some (.int .i64 (((L.R++looks L o ps).length:Nat):Int)):=(oRK.rows (by simp [looks];omega)).len (P:=prog) Fc.el42
  have hll:(L.R++looks L o ps).length=L.R.length+ps.length:=by simp [looks]
  rw [hll] at hlR
  unfold lacB at gK gK1
  have hsp:=@Nat.succ_ne_zero;repeat' (first|simp (disch:=first|exact dqb|fail) only [go_sem,↓reduceIte,hsp,r14,q1,q3,q6,q12,q13,hlt]|refine WP_drw ?_|refine cnd_intro (fun hsp=>?_) fun hsp=>?_)
  refine WPS_go ?_
  have hlow:refsLow K.length w:=oRK.elim (fun z=>z.low_refs) (fun z=>by rw [z.1];rfl)
  refine WP_loose [⟨2,42,48,⟨h.length,0,2⟩,w,100⟩] (by kernel_rfl) (by kernel_rfl) ⟨hlow,trivial⟩ fun K2 hK=>?_
  iterate 7
   rw [TRS_cons]
   refine ⟨by first|(simp (disch:=first|exact dqb|fail) only [go_sem,↓reduceIte,q1,q3,q6,q12,q13,gK,hlR,gK1,ldsQ_cons,ldsQ_nil,grdQ_cons,grdQ_nil,if_true,Nat.reduceLeDiff];done)|exact trivial,?_⟩
   simp (disch:=first|exact dqb|fail) only [go_sem,↓reduceIte,q1,q3,q6,q12,q13,gK,hlR,gK1]
  rw [TRS_nil]
  refine ⟨by first|(simp (disch:=first|exact dqb|fail) only [go_sem,↓reduceIte,q1,q3,q6,q12,q13,gK,hlR,gK1,ldsQ_cons,ldsQ_nil,grdQ_cons,grdQ_nil,if_true,Nat.reduceLeDiff];done)|exact trivial,?_⟩
  subst hK
  have hsp:=@Nat.succ_ne_zero;repeat' (first|simp (disch:=first|exact dqb|fail) only [go_sem,↓reduceIte,hsp,q1,q3,q6,q12,q13]|refine WP_drw ?_|refine cnd_intro (fun hsp=>?_) fun hsp=>?_)
  have hd:decide (((L.R.length+ps.length:Nat):Int)≤12)=decide (L.R.length+ps.length≤12):=decide_eq_decide.2 (by omega)
  exact ⟨xK.set (by omega),_,by rw [hd];rfl,cw,w,rfl,(oCK.setBox gK1).low (by omega),(oRK.setBox gK1).low (by omega)⟩
end Go.AM
namespace Go.AM
open Go.Proofs.Try
theorem orN {t:TypeId} {a b:Nat} (ha:a<2 ^ 62) (hb:b<2 ^ 62):binA prog .or t (.int .i64 (a:Int)) (.int .i64 (b:Int))=some (.int .i64 ((a ||| b:Nat):Int)):=by
 have hx:a ||| b<2 ^ 62:=Nat.or_lt_two_pow ha hb
 have e:BitVec.ofInt 64 (a:Int) ||| BitVec.ofInt 64 (b:Int)=BitVec.ofNat 64 (a ||| b):=by
  apply BitVec.eq_of_toNat_eq
  simp only [BitVec.toNat_or,BitVec.toNat_ofInt,BitVec.toNat_ofNat]
  have h3:(a:Int) % ((2 ^ 64:Nat):Int)=a:=Int.emod_eq_of_lt (by omega) (by omega)
  have h4:(b:Int) % ((2 ^ 64:Nat):Int)=b:=Int.emod_eq_of_lt (by omega) (by omega)
  rw [h3,h4,Nat.mod_eq_of_lt (by omega)]
  rfl
 show some (AVal.int .i64 (IntKind.i64.wrap ((BitVec.ofInt 64 (a:Int) ||| BitVec.ofInt 64 (b:Int)).toNat:Int)))=_
 rw [e,BitVec.toNat_ofNat,Nat.mod_eq_of_lt (by omega),wrap64 (by omega) (by omega)]
end Go.AM
namespace Go.AM
open Go.Proofs.Try
attribute [-go_sem] put_ne put_same
attribute [local go_sem ↓] put_if
structure SeenOk (T:Int) (C o:List Int) (r:Rw3):Prop where
 t:0≤r.1∧r.1≤60
 m:0≤r.2.1∧r.2.1≤2 ^ T.toNat-1
 s:0≤r.2.2
 is:(C.getD (o.getD (r.1.toNat % C.length) 0).toNat 0).toNat &&& r.2.1.toNat=r.2.2.toNat
theorem OwnE.spE {α:Type} {E:Enc α} {e:TypeId} {b id k0 k:Nat} {h H:Heap} {v w:AVal} {silk:List Int} {l:List α} (x:OwnE E e b h w l) (hS:SpAt h id v silk k0) (q:SpE h id v silk k H):OwnE E e b H w l:=(x.setBox hS.1).ext q
theorem pow_le8 {T:Int} (h:1≤T∧T≤8):(1:Int)≤2 ^ T.toNat∧(2:Int) ^ T.toNat≤256:=by
 refine ⟨by exact_mod_cast Nat.one_le_two_pow,?_⟩
 have h2:(2:Int) ^ T.toNat≤2 ^ 8:=by exact_mod_cast Nat.pow_le_pow_right (by decide) (show T.toNat≤8 by omega)
 simpa using h2
theorem stL47a {base:Nat} {l:List Oper} {s:St} {Q:AExit→St→Prop}:WP prog raw base (.region 1 l.toArray true) s Q=WPS prog raw base (.region 1 l.toArray true) s Q:=WP_stop
attribute [local go_sem ↓ 3000] stL47a
theorem stL47b {base:Nat} {l:List Oper} {s:St} {Q:AExit→St→Prop}:WP prog raw base (.region 2 l.toArray true) s Q=WPS prog raw base (.region 2 l.toArray true) s Q:=WP_stop
attribute [local go_sem ↓ 3000] stL47b
set_option maxRecDepth 100000 in
set_option maxHeartbeats 4000000 in
theorem run_Seen {id k:Nat} {h:Heap} {v cv rv ov:AVal} {silk C o:List Int} {T:Int} (hS:SpAt h id v silk k) (hk:k≤900000) (hC:OwnE encI 3 0 h cv C) (o2:One rv) (hO:OwnE encI 3 0 h ov o) (hcl:C.length≤1000) (hT:1≤T∧T≤8) (hc:∀ x ∈ C,0≤x∧x≤2 ^ T.toNat-1) (ho:Ord C.length o) (hn:0<C.length) :
  ∃ r:Rw3,(∀ base,callL prog raw base (.fn 47 [] []) [.ptr (some ⟨id,0,0⟩),.agg [.int .i64 T,cv,rv],ov] h=some (.agg [.int .i64 r.1,.int .i64 r.2.1,.int .i64 r.2.2],h.set id (spB v silk (k+4))))∧SeenOk T C o r:=by
 have hid:=lt_of_get hS.1
 have o1:=hC.one
 have o3:=hO.one
 have hol:=ho.1
 obtain ⟨hw1,hw2⟩:=pow_le8 hT
 have sh:=shl_one (w:=T) (by omega) (by omega)
 obtain ⟨W,eW⟩:∃ W:Int,W=2 ^ T.toNat:=⟨_,rfl⟩
 have hcW:∀ x ∈ C,0≤x∧x≤W-1:=fun x hx=>by rw [eW];exact hc x hx
 rw [← eW] at sh hw1 hw2
 have b1:=up_bd (silk:=silk) (k:=k) (n:=60) (by omega)
 have b2:=up_bd (silk:=silk) (k:=k+1) (n:=W-1) (by omega)
 have b3:=up_bd (silk:=silk) (k:=k+1+1) (n:=W-1) (by omega)
 have b4:=up_bd (silk:=silk) (k:=k+1+1+1) (n:=W-1) (by omega)
 have u1:=fun base (G:Heap) (y:SpAt G id v silk k)=>run_upto (base:=base) (n:=60) y (by omega) (by omega)
 have u2:=fun base (G:Heap) (y:SpAt G id v silk (k+1))=>run_upto (base:=base) (n:=W-1) y (by omega) (by omega)
 have u3:=fun base (G:Heap) (y:SpAt G id v silk (k+1+1))=>run_upto (base:=base) (n:=W-1) y (by omega) (by omega)
 have u4:=fun base (G:Heap) (y:SpAt G id v silk (k+1+1+1))=>run_upto (base:=base) (n:=W-1) y (by omega) (by omega)
 obtain ⟨a,ea⟩:=Int.eq_ofNat_of_zero_le b1.1
 obtain ⟨m1,em1⟩:=Int.eq_ofNat_of_zero_le b2.1
 obtain ⟨m2,em2⟩:=Int.eq_ofNat_of_zero_le b3.1
 obtain ⟨m3,em3⟩:=Int.eq_ofNat_of_zero_le b4.1
 simp only [ea] at u1 b1
 simp only [em1] at u2 b2
 simp only [em2] at u3 b3
 simp only [em3] at u4 b4
 clear ea em1 em2 em3
 obtain ⟨m,em⟩:∃ m,m=m1 &&& (m2 ||| m3):=⟨_,rfl⟩
 have hor:m2 ||| m3<256:=Nat.or_lt_two_pow (n:=8) (by omega) (by omega)
 have hm:m≤m1:=by rw [em];exact Nat.and_le_left
 have aor:=orN (t:=3) (a:=m2) (b:=m3) (by omega) (by omega)
 have aan:=andN (t:=3) (a:=m1) (b:=m2 ||| m3) (by omega) (by omega)
 rw [← em] at aan
 obtain ⟨j,ej⟩:∃ j,j=a % C.length:=⟨_,rfl⟩
 have hj:j<C.length:=by rw [ej];exact Nat.mod_lt _ hn
 have hrem:=remN (x:=(a:Int)) (n:=C.length) (by omega) hn
 rw [Int.toNat_natCast,← ej] at hrem
 have hkk:=ho.2.1 _ (getD_mem (l:=o) (i:=j) (by omega))
 obtain ⟨p,ep⟩:=Int.eq_ofNat_of_zero_le hkk.1
 have hcp:=hcW _ (getD_mem (l:=C) (i:=p) (by omega))
 obtain ⟨c,ec⟩:=Int.eq_ofNat_of_zero_le hcp.1
 have ash:=andN (t:=3) (a:=c) (b:=m) (by omega) (by omega)
 obtain ⟨s,es⟩:∃ s,s=c &&& m:=⟨_,rfl⟩
 rw [← es] at ash
 -- the heaps
 obtain ⟨G,eG⟩:∃ G,G=h++[lacB T cv rv]++[rwB (0,0,0)]:=⟨_,rfl⟩
 have xG:Ext h G:=by rw [eG];exact .app (.app .refl)
 have lG:G.length=h.length+2:=by rw [eG];simp
 have gc:G[h.length]?=some (lacB T cv rv):=by rw [eG];exact get_app (get_eq rfl)
 have gr:G[h.length+1]?=some (rwB (0,0,0)):=by rw [eG];exact get_eq (by simp)
 have hS0:=hS.ext xG
 obtain ⟨G1,eG1⟩:∃ G1,G1=G.set id (spB v silk (k+1)):=⟨_,rfl⟩
 have q0:SpE h id v silk (k+1) G1:=by rw [eG1];exact ((SpE.refl hS).ext xG).step hid
 have l1:G1.length=h.length+2:=by rw [eG1,List.length_set,lG]
 have gc1:G1[h.length]?=some (lacB T cv rv):=by rw [eG1,List.getElem?_set_ne (by omega)];exact gc
 have gr1:G1[h.length+1]?=some (rwB (0,0,0)):=by rw [eG1,List.getElem?_set_ne (by omega)];exact gr
 have f1:=fun base=>u1 base G hS0
 rw [← eG1] at f1
 obtain ⟨G2,eG2⟩:∃ G2,G2=G1.set id (spB v silk (k+1+1)):=⟨_,rfl⟩
 have q2:SpE h id v silk (k+1+1) G2:=by rw [eG2];exact q0.step hid
 have l2:G2.length=h.length+2:=by rw [eG2,List.length_set,l1]
 have gc2:G2[h.length]?=some (lacB T cv rv):=by rw [eG2,List.getElem?_set_ne (by omega)];exact gc1
 have gr2:G2[h.length+1]?=some (rwB (0,0,0)):=by rw [eG2,List.getElem?_set_ne (by omega)];exact gr1
 have f2:=fun base=>u2 base G1 (q0.at hS)
 rw [← eG2] at f2
 obtain ⟨G3,eG3⟩:∃ G3,G3=G2++[rwB ((a:Int),(m1:Int),0)]:=⟨_,rfl⟩
 have q3:SpE h id v silk (k+1+1) G3:=by rw [eG3];exact q2.app
 have l3:G3.length=h.length+3:=by rw [eG3];simp [l2]
 have gc3:G3[h.length]?=some (lacB T cv rv):=by rw [eG3];exact get_app gc2
 have gr3:G3[h.length+1]?=some (rwB (0,0,0)):=by rw [eG3];exact get_app gr2
 have gx3:G3[h.length+1+1]?=some (rwB ((a:Int),(m1:Int),0)):=by rw [eG3];exact get_eq (by rw [l2])
 obtain ⟨G4,eG4⟩:∃ G4,G4=G3.set id (spB v silk (k+1+1+1)):=⟨_,rfl⟩
 have q4:SpE h id v silk (k+1+1+1) G4:=by rw [eG4];exact q3.step hid
 have l4:G4.length=h.length+3:=by rw [eG4,List.length_set,l3]
 have gc4:G4[h.length]?=some (lacB T cv rv):=by rw [eG4,List.getElem?_set_ne (by omega)];exact gc3
 have gr4:G4[h.length+1]?=some (rwB (0,0,0)):=by rw [eG4,List.getElem?_set_ne (by omega)];exact gr3
 have gx4:G4[h.length+1+1]?=some (rwB ((a:Int),(m1:Int),0)):=by rw [eG4,List.getElem?_set_ne (by omega)];exact gx3
 have f3:=fun base=>u3 base G3 (q3.at hS)
 rw [← eG4] at f3
 obtain ⟨G5,eG5⟩:∃ G5,G5=G4.set id (spB v silk (k+1+1+1+1)):=⟨_,rfl⟩
 have q5:SpE h id v silk (k+1+1+1+1) G5:=by rw [eG5];exact q4.step hid
 have l5:G5.length=h.length+3:=by rw [eG5,List.length_set,l4]
 have gc5:G5[h.length]?=some (lacB T cv rv):=by rw [eG5,List.getElem?_set_ne (by omega)];exact gc4
 have gr5:G5[h.length+1]?=some (rwB (0,0,0)):=by rw [eG5,List.getElem?_set_ne (by omega)];exact gr4
 have gx5:G5[h.length+1+1]?=some (rwB ((a:Int),(m1:Int),0)):=by rw [eG5,List.getElem?_set_ne (by omega)];exact gx4
 have f4:=fun base=>u4 base G4 (q4.at hS)
 rw [← eG5] at f4
 obtain ⟨G6,eG6⟩:∃ G6,G6=G5.set (h.length+1+1) (rwB ((a:Int),(m:Int),0)):=⟨_,rfl⟩
 have hset:∀ {i:Nat} {b:ABlk} {X:Heap},h.length≤i→SpE h id v silk (k+1+1+1+1) X→SpE h id v silk (k+1+1+1+1) (X.set i b):=fun hi y=>Ext.set y (by rw [List.length_set];exact hi)
 have q6:SpE h id v silk (k+1+1+1+1) G6:=by rw [eG6];exact hset (by omega) q5
 have l6:G6.length=h.length+3:=by rw [eG6,List.length_set,l5]
 have gc6:G6[h.length]?=some (lacB T cv rv):=by rw [eG6,List.getElem?_set_ne (by omega)];exact gc5
 have gr6:G6[h.length+1]?=some (rwB (0,0,0)):=by rw [eG6,List.getElem?_set_ne (by omega)];exact gr5
 have gx6:G6[h.length+1+1]?=some (rwB ((a:Int),(m:Int),0)):=by rw [eG6,List.getElem?_set_self (by omega)]
 obtain ⟨G7,eG7⟩:∃ G7,G7=G6.set (h.length+1+1) (rwB ((a:Int),(m:Int),(s:Int))):=⟨_,rfl⟩
 have q7:SpE h id v silk (k+1+1+1+1) G7:=by rw [eG7];exact hset (by omega) q6
 have gr7:G7[h.length+1]?=some (rwB (0,0,0)):=by rw [eG7,List.getElem?_set_ne (by omega)];exact gr6
 have gx7:G7[h.length+1+1]?=some (rwB ((a:Int),(m:Int),(s:Int))):=by rw [eG7,List.getElem?_set_self (by omega)]
 have iC:Ints G6 cv C:=ownE_ints (hC.spE hS q6) ⟨by omega,fun x hx=>by have:=hcW x hx;omega⟩
 have iO:Ints G6 ov o:=ownE_ints (hO.spE hS q6) (ord_small ho (by omega))
 have hlo:=lenI iO
 rw [hol] at hlo
 have aj:=adrI (i:=(j:Int)) (by omega) iO (by omega)
 rw [Int.toNat_natCast] at aj
 have lj:=loadI iO (i:=j) (by omega)
 rw [ep] at lj hkk
 have ap:=adrI (i:=(p:Int)) (by omega) iC (by omega)
 rw [Int.toNat_natCast] at ap
 have lp:=loadI iC (i:=p) (by omega)
 rw [ec] at lp
 refine ⟨((a:Int),(m:Int),(s:Int)),fun base=>?_,⟨by simp only;omega,by simp only;rw [← eW];omega,by simp only;omega,?_⟩⟩
 ·have eG':=eG
  unfold lacB rwB at eG'
  unfold lacB at gc gc1 gc3 gc4 gc6
  unfold rwB at eG3 gx3 gx4 gx5 gx6 gx7 gr7 eG6 eG7
  rw [show h.length+1+1=G2.length from l2.symm] at gx3 gx4 gx5 gx6 gx7 eG6 eG7
  refine callL_run func47 rfl rfl ?_
  have hsp:=@Nat.succ_ne_zero;repeat' (first|simp (disch:=first|exact dqc|fail) only [go_sem,↓reduceIte,hsp,← eG']|refine WP_drw ?_|refine cnd_intro (fun hsp=>?_) fun hsp=>?_)
  refine WPS_go ?_
  refine WP_wild [⟨4,3,11,⟨h.length,0,0⟩,.int .i64 T,7⟩] (by kernel_rfl) (by kernel_rfl) (by kernel_rfl) ⟨refsLow_int,trivial⟩ fun K hK=>?_
  iterate 11
   rw [TRS_cons]
   refine ⟨by first|(simp (disch:=first|exact dqc|fail) only [go_sem,↓reduceIte,f1,gc,gc1,sh,f2,← eG3,ldsQ_cons,ldsQ_nil,grdQ_cons,grdQ_nil,if_true,Nat.reduceLeDiff];done)|exact trivial,?_⟩
   simp (disch:=first|exact dqc|fail) only [go_sem,↓reduceIte,f1,gc,gc1,sh,f2,← eG3]
  rw [TRS_nil]
  refine ⟨by first|(simp (disch:=first|exact dqc|fail) only [go_sem,↓reduceIte,f1,gc,gc1,sh,f2,← eG3,ldsQ_cons,ldsQ_nil,grdQ_cons,grdQ_nil,if_true,Nat.reduceLeDiff];done)|exact trivial,?_⟩
  subst hK
  have hsp:=@Nat.succ_ne_zero;repeat' (first|simp (disch:=first|exact dqc|fail) only [go_sem,↓reduceIte,hsp,← eG3]|refine WP_drw ?_|refine cnd_intro (fun hsp=>?_) fun hsp=>?_)
  refine WPS_go ?_
  refine WP_wild [⟨1,3,17,⟨G2.length,0,1⟩,.int .i64 (m1:Int),17⟩,⟨10,3,26,⟨h.length,0,0⟩,.int .i64 T,13⟩] (by kernel_rfl) (by kernel_rfl) (by kernel_rfl) ⟨refsLow_int,refsLow_int,trivial⟩ fun K hK=>?_
  iterate 18
   rw [TRS_cons]
   refine ⟨by first|(simp (disch:=first|exact dqc|fail) only [go_sem,↓reduceIte,gx3,gc3,sh,f3,gc4,gx4,f4,aor,aan,gx5,← eG6,ldsQ_cons,ldsQ_nil,grdQ_cons,grdQ_nil,if_true,Nat.reduceLeDiff];done)|exact trivial,?_⟩
   simp (disch:=first|exact dqc|fail) only [go_sem,↓reduceIte,gx3,gc3,sh,f3,gc4,gx4,f4,aor,aan,gx5,← eG6]
  rw [TRS_nil]
  refine ⟨by first|(simp (disch:=first|exact dqc|fail) only [go_sem,↓reduceIte,gx3,gc3,sh,f3,gc4,gx4,f4,aor,aan,gx5,← eG6,ldsQ_cons,ldsQ_nil,grdQ_cons,grdQ_nil,if_true,Nat.reduceLeDiff];done)|exact trivial,?_⟩
  subst hK
  have hsp:=@Nat.succ_ne_zero;repeat' (first|simp (disch:=first|exact dqc|fail) only [go_sem,↓reduceIte,hsp,← eG6,gc6,gx6,hlo,hrem,aj,lj,ap,lp,ash,← eG7,gx7,gr7]|refine WP_drw ?_|refine cnd_intro (fun hsp=>?_) fun hsp=>?_)
  obtain ⟨G8,eG8⟩:∃ G8,G8=G7.set (h.length+1) (rwB ((a:Int),(m:Int),(s:Int))):=⟨_,rfl⟩
  have q8:SpE h id v silk (k+1+1+1+1) G8:=by rw [eG8];exact hset (by omega) q7
  have g8:G8[h.length+1]?=some (rwB ((a:Int),(m:Int),(s:Int))):=by rw [eG8,List.getElem?_set_self (lt_of_get gr7)]
  unfold rwB at eG8 g8
  have hsp:=@Nat.succ_ne_zero;repeat' (first|simp (disch:=first|exact dqc|fail) only [go_sem,↓reduceIte,hsp,← eG8,g8]|refine WP_drw ?_|refine cnd_intro (fun hsp=>?_) fun hsp=>?_)
  exact set_fin rfl q8
 ·rw [Int.toNat_natCast,← ej,ep,Int.toNat_natCast,ec,Int.toNat_natCast,Int.toNat_natCast,Int.toNat_natCast,es]
end Go.AM
namespace Go.AM
theorem pair_sortB {m:List Int} (h:m.Pairwise (·≤·)):sortB m=true:=by
 unfold sortB
 refine decide_eq_true fun i hi h0=>?_
 have:=pair_at h (i:=i-1) (j:=i) (by omega) hi
 rw [getD_at hi,getD_at (show i-1<m.length by omega)]
 exact this
end Go.AM
