/-
  Contracts: Decide.
-/
import Derived.Test.YteanoaejoddnbaaGreatU17
import Derived.Test.YteanoaejoddnbaaGreatU16
import Derived.Test.YteanoaejoddnbaaGreatU12
set_option linter.unusedSimpArgs false
set_option linter.unusedVariables false
namespace Go.AM
open Go.Proofs.Tryz
attribute [-go_sem] put_ne put_same
attribute [local go_sem ↓] put_if
def prC (b:ABlk):Prop:=∀ es,b ≠ ⟨.map es,0⟩
theorem KeepX.keepP {m:Nat} {H H':Heap} {es:List (AVal × AVal)} (k:KeepX m H H') (g:H[m]?=some ⟨.map es,0⟩):KeepP 0 prC H H' :=
 ⟨k.1,fun i x _ hx hg=>k.2 i x (fun e=>by rw [e,g] at hg;cases hg;exact hx es rfl) hg⟩
set_option maxHeartbeats 2000000 in
theorem run_dcd1 {base bb B:Nat} {h:Heap} {lv ovv:AVal} {l:List Int} {os:List (List Int)} {n:Nat} (gB:h[B]?=some (lsB ovv)) (hA:AllI bb h ovv os) (hos:os.length≤823543) (hord:∀ o ∈ os,Ord n o) (hn:n≤7) (hI:Ints h lv l) (hl:l.length≤7) (hin:∀ x ∈ l,0≤x∧x<(n:Int)) :
  callL prog raw base (.fn 114 [] [.ptr (some ⟨B,0,0⟩)]) [lv] h=some (.bool (dcdP os l),h):=by
 have olv:=hI.one
 have oov:=hA.one
 have lB':=lt_of_get gB
 obtain ⟨G,eG⟩:∃ G,G=h++[lB lv]++[(⟨.map (mpK []),0⟩:ABlk)]++[mbB (h.length+1)]:=⟨_,rfl⟩
 have xG:Ext h G:=by rw [eG];exact .app (.app (.app .refl))
 have lG:G.length=h.length+3:=by rw [eG];simp
 have gA:G[h.length]?=some (lB lv):=by rw [eG];exact get_app (get_app (get_eq rfl))
 have gm:G[h.length+1]?=some ⟨.map (mpK []),0⟩:=by rw [eG];exact get_app (get_eq (by simp))
 have gM:G[h.length+1+1]?=some (mbB (h.length+1)):=by rw [eG];exact get_eq (by simp)
 have gBG:=xG.get gB
 obtain ⟨g,eg⟩:∃ g,g=(.fn 115 [] [.ptr (some ⟨h.length,0,0⟩),.ptr (some ⟨h.length+1+1,0,0⟩)]:AVal):=⟨_,rfl⟩
 have og:One g:=by rw [eg];exact ⟨rfl,rfl,rfl⟩
 obtain ⟨m,em⟩:∃ m,m=h.length+1:=⟨_,rfl⟩
 have hA0:=hA
 obtain ⟨vs,hO,hvl,hel⟩:=hA
 have hR:=hO.rows (by omega)
 have hk7:∀ o,(kyA l o).length=7:=fun o=>kyA_len hl
 obtain ⟨w,H,e3,k3,b,rfl,c1,c2⟩:=everyS_Z (base:=h.length) (h:=G) (v:=ovv) (g:=g) (l:=vs) (A:=0) (pr:=prC)
  (J:=fun i H=>KeepX m G H∧H[m]?=some ⟨.map (mpK ((os.take i).map (kyA l))),0⟩∧((os.take i).map (kyA l)).Nodup) (S:=fun i H=>KeepX m G H∧¬ (os.map (kyA l)).Nodup) (by omega) og (by omega) (fun es q=>by cases q)
  (fun i H q=>hR.ext (q.1.ext xG (by omega)))
  (fun i x H hx hH ⟨q1,q2,q3⟩=>by
   have hi:=(List.getElem?_eq_some_iff.1 hx).1
   have ht:os[i]?=some os[i]:=List.getElem?_eq_getElem (by omega)
   obtain ⟨o,eo⟩:∃ o,o=os[i]'(by omega):=⟨_,rfl⟩
   rw [← eo] at ht
   have ho:=hel i x _ hx ht
   have hoo:=hord o (List.mem_of_getElem? ht)
   have xh:=q1.ext xG (by omega)
   rw [norm_one ho.one,eg]
   obtain ⟨H',e,k,u⟩:=run_key (base:=h.length) (A:=h.length) (M:=h.length+1+1) (m:=m) (n:=n) (H:=H) (lv:=lv) (ov:=x) (l:=l) (o:=o) (ks:=(os.take i).map (kyA l)) (by omega) (q1.2 _ _ (by omega) gA) (by rw [em];exact q1.2 _ _ (by omega) gM) q2 (hI.ext xh) (ownE_ints (ho.ext xh) (ord_small hoo (by omega))) hl (by rw [hoo.1];exact hin) (fun y hy=>by
    obtain ⟨z,_,rfl⟩:=List.mem_map.1 hy
    exact hk7 z)
   have htk:(os.take (i+1)).map (kyA l)=(os.take i).map (kyA l)++[kyA l o]:=by
    rw [List.take_add_one,ht];simp
   refine ⟨_,H',e,k.keepP q2,fun q=>?_,fun q=>?_⟩
   ·have hc:=of_decide_eq_true q
    refine ⟨q1.trans k,by rw [htk];exact u hc,?_⟩
    rw [htk,List.nodup_append]
    exact ⟨q3,by simp,fun a ha b hb e=>by rw [List.mem_singleton] at hb;exact hc (by rw [← hb,← e];exact ha)⟩
   ·have hc:=Classical.not_not.1 (of_decide_eq_false q)
    refine ⟨q1.trans k,fun hN=>?_⟩
    have hsub:((os.take (i+1)).map (kyA l)).Nodup:=(List.Sublist.map _ (List.take_sublist _ _)).nodup hN
    rw [htk,List.nodup_append] at hsub
    exact hsub.2.2 _ hc _ (by simp) rfl)
  ⟨.ofExt (.app .refl),by rw [em];exact get_app gm,by simp⟩
 have hfin:KeepX m G H∧b=dcdP os l:=by
  cases b with
  | true =>
   obtain ⟨q1,_,q3⟩:=c1 rfl
   rw [hvl,List.take_length] at q3
   exact ⟨q1,(decide_eq_true (kyA_nodup.1 q3)).symm⟩
  | false =>
   obtain ⟨i,_,q1,q2⟩:=c2 rfl
   exact ⟨q1,(decide_eq_false (fun q=>q2 (kyA_nodup.2 q))).symm⟩
 obtain ⟨kf,rfl⟩:=hfin
 have hmp:([]:List (AVal × AVal))=mpK []:=rfl
 unfold lsB at gBG
 unfold mbB lB at eG
 rw [eg] at e3
 refine callL_run func114 rfl rfl ?_
 have hsp:=@Nat.succ_ne_zero;repeat' (first|simp (disch:=first|exact dq|fail) only [go_sem,↓reduceIte,hsp,hmp,← eG,gBG,e3]|refine WP_drw ?_|refine cnd_intro (fun hsp=>?_) fun hsp=>?_)
 exact fB rfl (kf.ext xG (by omega))
def dcdE (L:Lac):List Int × Int:=if (fndE L).2=0 then (dcdL L.C.length (fnd L),0) else ([],(fndE L).2)
set_option maxHeartbeats 1000000 in
theorem run_Decide {base:Nat} {h:Heap} {v:AVal} {L:Lac} (hb:base≤h.length) (hL:LacAt h v L) :
  Ret prog raw base (.fn 79 [] []) [v] h (fun w H=>Ext h H∧∃ x,w=.tuple [x,.int .i64 (dcdE L).2]∧Own encI 3 h.length H x (dcdE L).1):=by
 have hL0:=hL
 obtain ⟨cv,rv,rfl,hC,hR⟩:=hL
 have o1:=hC.one
 have o2:=hR.one
 obtain ⟨G0,eG0⟩:∃ G0,G0=h++[lacB L.T cv rv]:=⟨_,rfl⟩
 have x0:Ext h G0:=by rw [eG0];exact .app .refl
 have g0:G0[h.length]?=some (lacB L.T cv rv):=by rw [eG0];exact get_eq rfl
 have l0:G0.length=h.length+1:=by rw [eG0];simp
 obtain ⟨w1,H1,e1,x1,a,x,rfl,oa,hA,hD⟩:=run_found (base:=base) (h:=G0) (by omega) (hL0.ext x0)
 have ox:=hA.one
 have l1:=x1.len
 have xh:=x0.trans x1
 obtain ⟨H2,eH2⟩:∃ H2,H2=H1++[lsB x]:=⟨_,rfl⟩
 have x2:Ext H1 H2:=by rw [eH2];exact .app .refl
 have g2:H2[H1.length]?=some (lsB x):=by rw [eH2];exact get_eq rfl
 have l2:H2.length=H1.length+1:=by rw [eH2];simp
 have eH2':=eH2
 unfold lacB at eG0 g0
 unfold lsB at eH2'
 refine ret_raw func79 rfl (by kernel_rfl) ?_
 by_cases c:(fndE L).2=0
 ·obtain ⟨c1,c2,c3⟩:=fndE_ok c
  have kn:=(chkL_iff.1 c1).n
  obtain ⟨id,rfl,hDk⟩:=hD c
  rw [c3] at hA e1
  have hAI:AllI G0.length H1 x (fnd L):=hA.all
  have hfew:=fnd_few (L:=L) kn.2
  obtain ⟨d1,d2,d3⟩:=dcdL_is (n:=L.C.length) (fnd_nodup (L:=L)) (fun o ho=>(fnd_ord ho).1)
  have r:dcdE L=(dcdL L.C.length (fnd L),0):=by unfold dcdE;rw [if_pos c]
  rw [r]
  obtain ⟨w3,H3,e3,x3,y,rfl,hres⟩:=run_first (base:=base) (id:=id) (h:=H2) (g:=.fn 114 [] [.ptr (some ⟨H1.length,0,0⟩)]) (L:=L) (p:=dcdP (fnd L)) (by omega) ⟨rfl,rfl,rfl⟩ (hDk.ext x2) kn.2
   (fun O H sv l hO y1 y2 hOw hin hll=>run_dcd1 (n:=L.C.length) (y1.get g2) (hAI.ext (x2.trans y1)) hfew (fun o ho=>fnd_ord ho) kn.2 (own_ints hOw ⟨by omega,fun z hz=>by have:=hin z hz;omega⟩) (by omega) hin)
  rw [d1] at e3
  rw [d2] at hres
  have hres:Own encI 3 H2.length H3 y (dcdL L.C.length (fnd L)):=hres
  have oy:=hres.one
  have hsp:=@Nat.succ_ne_zero;repeat' (first|simp (disch:=first|exact dq|fail) only [go_sem,↓reduceIte,hsp,← eG0,g0,e1,eq_self,← eH2',e3]|refine WP_drw ?_|refine cnd_intro (fun hsp=>?_) fun hsp=>?_)
  exact ⟨xh.trans (x2.trans x3),y,rfl,hres.low (by omega)⟩
 ·have t0:((fndE L).2=0)=False:=eq_false c
  have r:dcdE L=([],(fndE L).2):=by unfold dcdE;rw [if_neg c]
  rw [r]
  have hsp:=@Nat.succ_ne_zero;repeat' (first|simp (disch:=first|exact dq|fail) only [go_sem,↓reduceIte,hsp,← eG0,g0,e1,t0,← eH2']|refine WP_drw ?_|refine cnd_intro (fun hsp=>?_) fun hsp=>?_)
  exact ⟨xh.trans x2,_,rfl,Own.nil⟩
end Go.AM
namespace Go.AM
open Go.Proofs.Tryz
attribute [-go_sem] put_ne put_same
attribute [local go_sem ↓] put_if
theorem run_pos2 {base:Nat} {h:Heap} {T x:Int} {cv rv:AVal} {l:List Int} (hC:Ints h cv l) (o2:One rv):callL prog raw base (.fn 99 [] []) [.agg [.int .i64 T,cv,rv],.int .i64 x] h=some (.bool (decide (0≤x∧x≤(l.length:Int)-1)),h):=by
 have o1:=hC.one
 have hb:=hC.1.1
 obtain ⟨G,eG⟩:∃ G,G=h++[lacB T cv rv]:=⟨_,rfl⟩
 have xG:Ext h G:=by rw [eG];exact .app .refl
 have g0:G[h.length]?=some (lacB T cv rv):=by rw [eG];exact get_eq rfl
 have hl:=lenI (hC.ext xG)
 unfold lacB at eG g0
 refine callL_run func99 rfl rfl ?_
 have hsp:=@Nat.succ_ne_zero;repeat' (first|simp (disch:=first|exact dq|fail) only [go_sem,↓reduceIte,hsp,← eG,g0,hl]|refine WP_drw ?_|refine cnd_intro (fun hsp=>?_) fun hsp=>?_)
 exact fB rfl xG
def fitE (L:Lac) (p:Int):List Int × Int:=if chkL L ≠ 0 then ([],chkL L) else if ¬ (0≤p∧p≤(L.C.length:Int)-1) then ([],1) else (fitL L p.toNat,0)
set_option maxHeartbeats 1000000 in
theorem run_Fit {base:Nat} {h:Heap} {v:AVal} {L:Lac} {p:Int} (hb:base≤h.length) (hL:LacAt h v L) :
  Ret prog raw base (.fn 54 [] []) [v,.int .i64 p] h (fun w H=>Ext h H∧∃ x,w=.tuple [x,.int .i64 (fitE L p).2]∧Own encI 3 h.length H x (fitE L p).1):=by
 have hL0:=hL
 obtain ⟨cv,rv,rfl,hC,hR⟩:=hL
 have o1:=hC.one
 have o2:=hR.one
 obtain ⟨G0,eG0⟩:∃ G0,G0=h++[lacB L.T cv rv]:=⟨_,rfl⟩
 have x0:Ext h G0:=by rw [eG0];exact .app .refl
 have g0:G0[h.length]?=some (lacB L.T cv rv):=by rw [eG0];exact get_eq rfl
 have l0:G0.length=h.length+1:=by rw [eG0];simp
 obtain ⟨w1,H1,e1,x1,r1,r2⟩:=run_opened (base:=base) (h:=G0) (by omega) (hL0.ext x0)
 have l1:=x1.len
 have g1:=x1.get g0
 have hps2:=run_pos2 (base:=base) (T:=L.T) (x:=p) (rv:=rv) (hC.ext (x0.trans x1)) o2
 unfold lacB at eG0 g0 g1
 refine ret_raw func54 rfl (by kernel_rfl) ?_
 by_cases c0:chkL L=0
 ·obtain ⟨id,rfl,hid,hD⟩:=r2 c0
  have kn:=(chkL_iff.1 c0).n
  by_cases c1:0≤p∧p≤(L.C.length:Int)-1
  ·rw [decide_eq_true c1] at hps2
   obtain ⟨q,rfl⟩:=Int.eq_ofNat_of_zero_le c1.1
   obtain ⟨w2,H2,e2,x2,oF⟩:=run_fit (base:=base) (p:=q) (by omega) hD kn.2 (by omega)
   have ow:=oF.one
   have hl2:=x2.len
   have r:fitE L (q:Int)=(fitL L q,0):=by unfold fitE;rw [if_neg (by simp [c0]),if_neg (fun z=>z c1),Int.toNat_natCast]
   rw [r]
   have hsp:=@Nat.succ_ne_zero;repeat' (first|simp (disch:=first|exact dq|fail) only [go_sem,↓reduceIte,hsp,← eG0,g0,e1,eq_self,g1,hps2,e2]|refine WP_drw ?_|refine cnd_intro (fun hsp=>?_) fun hsp=>?_)
   exact ⟨(x0.trans x1).trans x2,_,rfl,oF.low (by omega)⟩
  ·rw [decide_eq_false c1] at hps2
   have r:fitE L p=([],1):=by unfold fitE;rw [if_neg (by simp [c0]),if_pos c1]
   rw [r]
   have hsp:=@Nat.succ_ne_zero;repeat' (first|simp (disch:=first|exact dq|fail) only [go_sem,↓reduceIte,hsp,← eG0,g0,e1,eq_self,g1,hps2]|refine WP_drw ?_|refine cnd_intro (fun hsp=>?_) fun hsp=>?_)
   exact ⟨x0.trans x1,_,rfl,Own.nil⟩
 ·have t0:(chkL L=0)=False:=eq_false c0
  have q:=r1 c0
  subst q
  have r:fitE L p=([],chkL L):=by unfold fitE;rw [if_pos c0]
  rw [r]
  have hsp:=@Nat.succ_ne_zero;repeat' (first|simp (disch:=first|exact dq|fail) only [go_sem,↓reduceIte,hsp,← eG0,g0,e1,t0,g1]|refine WP_drw ?_|refine cnd_intro (fun hsp=>?_) fun hsp=>?_)
  exact ⟨x0.trans x1,_,rfl,Own.nil⟩
def xplD (L:Lac) (o:List Int) (i:Nat):Bool:=(List.range i).all fun i=>fitB L i (o.getD i 0).toNat
theorem xplD_succ {L:Lac} {o:List Int} {i:Nat}:xplD L o (i+1)=(xplD L o i && fitB L i (o.getD i 0).toNat):=by
 unfold xplD;rw [List.range_succ,List.all_append];simp
theorem xplD_no {L:Lac} {o:List Int} {i n:Nat} (hi:i<n) (h:fitB L i (o.getD i 0).toNat=false):xplD L o n=false:=by
 unfold xplD
 rw [Bool.eq_false_iff]
 intro q
 have:=List.all_eq_true.1 q i (List.mem_range.2 hi)
 rw [h] at this;cases this
theorem xplD_iff {L:Lac} {o:List Int}:xplD L o o.length=true ↔ Xpl L o:=by
 unfold xplD Xpl
 rw [List.all_eq_true]
 exact ⟨fun h i hi=>h i (List.mem_range.2 hi),fun h i hi=>h i (List.mem_range.1 hi)⟩
theorem run_explainsD {base id:Nat} {h:Heap} {v:AVal} {L:Lac} {o:List Int} (hD:DskAt h id L) (hn:L.C.length≤7) (hI:Ints h v o) (ho:Ord L.C.length o) :
  callL prog raw base (.fn 104 [] []) [.ptr (some ⟨id,0,0⟩),v] h=some (.bool (xplD L o o.length),h):=by
 obtain ⟨cv,rv,hg,hC,-⟩:=hD
 have lid:=lt_of_get hg
 have hlo:=lenI hI
 have ov:=hI.one
 have hol:=ho.1
 refine callL_run func104 rfl rfl ?_
 have hsp:=@Nat.succ_ne_zero;repeat' (first|simp (disch:=first|exact dq|fail) only [go_sem,↓reduceIte,hsp,hlo]|refine WP_drw ?_|refine cnd_intro (fun hsp=>?_) fun hsp=>?_)
 refine WP_count [(4,6),(9,23)] 0 o.length (Nat.zero_le _) (fun _ i fr H=>fr 9=.int .i64 (i:Int)∧H=h∧xplD L o i=true) ?_ ?_ ?_
 ·exact ⟨by (simp (disch:=first|exact dq|fail) only [go_sem,↓reduceIte,Int.natCast_zero];first|done|rfl),rfl,rfl⟩
 ·rintro i fr H hi0 hi hA ⟨r9,rfl,hx⟩
  have q0:=hA 0 rfl
  have q7:=hA 7 rfl
  have q8:=hA 8 rfl
  try simp (disch:=first|exact dq|fail) only [go_sem,↓reduceIte] at q0 q7 q8
  have hlt:((i:Int)<(o.length:Int))=True:=eq_true (by omega)
  have ai:=adrI (i:=(i:Int)) (by omega) hI (by omega)
  rw [Int.toNat_natCast] at ai
  have li:=loadI hI hi
  have hr:=ho.2.1 _ (getD_mem hi)
  obtain ⟨c,ec⟩:=Int.eq_ofNat_of_zero_le hr.1
  rw [ec] at li
  have ad1:=Fc.ad79 (id:=id) (ver:=0) (o:=3) (i:=(i:Int)) (by omega) (by omega)
  have ad2:=Fc.ad77 (id:=id) (ver:=0) (o:=3+i * 7) (i:=(c:Int)) (by omega) (by omega)
  rw [Int.toNat_natCast] at ad1 ad2
  rw [Nat.mul_one] at ad2
  have lb:=ld_dsk hg hn (show i<L.C.length by omega) (show c<L.C.length by omega)
  have hfc:fitB L i (o.getD i 0).toNat=fitB L i c:=by rw [ec,Int.toNat_natCast]
  cases hc:fitB L i c with
  | true =>
   rw [hc] at lb
   have hsp:=@Nat.succ_ne_zero;repeat' (first|simp (disch:=first|exact dq|fail) only [go_sem,↓reduceIte,hsp,r9,q0,q7,q8,hlt,ai,li,ad1,ad2,lb]|refine WP_drw ?_|refine cnd_intro (fun hsp=>?_) fun hsp=>?_)
   exact ⟨agq,by omega,by rw [xplD_succ,hx,hfc,hc];rfl⟩
  | false =>
   rw [hc] at lb
   have hsp:=@Nat.succ_ne_zero;repeat' (first|simp (disch:=first|exact dq|fail) only [go_sem,↓reduceIte,hsp,r9,q0,q7,q8,hlt,ai,li,ad1,ad2,lb]|refine WP_drw ?_|refine cnd_intro (fun hsp=>?_) fun hsp=>?_)
   exact fB (by rw [xplD_no hi (by rw [hfc];exact hc)])
 ·rintro fr H hA ⟨r9,rfl,hx⟩
  have q0:=hA 0 rfl
  have q7:=hA 7 rfl
  have q8:=hA 8 rfl
  try simp (disch:=first|exact dq|fail) only [go_sem,↓reduceIte] at q0 q7 q8
  have hlt:((o.length:Int)<(o.length:Int))=False:=eq_false (by omega)
  have hsp:=@Nat.succ_ne_zero;repeat' (first|simp (disch:=first|exact dq|fail) only [go_sem,↓reduceIte,hsp,r9,q0,q7,q8,hlt]|refine WP_drw ?_|refine cnd_intro (fun hsp=>?_) fun hsp=>?_)
  exact fB (by rw [hx])
def lcdE (L:Lac) (o:List Int):Int:=if chkL L=0 then ordL o L.C.length else chkL L
set_option maxHeartbeats 1000000 in
theorem run_laced {base:Nat} {h:Heap} {v ov:AVal} {L:Lac} {o:List Int} (hb:base≤h.length) (hL:LacAt h v L) (hO:Ints h ov o) :
  Ret prog raw base (.fn 101 [] []) [v,ov] h (fun w H=>Ext h H∧∃ a,w=.tuple [a,.int .i64 (lcdE L o)]∧One a∧(lcdE L o=0→∃ id,a=.ptr (some ⟨id,0,0⟩)∧DskAt H id L)):=by
 have hL0:=hL
 obtain ⟨cv,rv,rfl,hC,hR⟩:=hL
 have o1:=hC.one
 have o2:=hR.one
 have o3:=hO.one
 obtain ⟨G0,eG0⟩:∃ G0,G0=h++[lacB L.T cv rv]:=⟨_,rfl⟩
 have x0:Ext h G0:=by rw [eG0];exact .app .refl
 have g0:G0[h.length]?=some (lacB L.T cv rv):=by rw [eG0];exact get_eq rfl
 have l0:G0.length=h.length+1:=by rw [eG0];simp
 obtain ⟨w1,H1,e1,x1,r1,r2⟩:=run_opened (base:=base) (h:=G0) (by omega) (hL0.ext x0)
 have l1:=x1.len
 have g1:=x1.get g0
 have xh:=x0.trans x1
 have hlc:=lenI (hC.ext xh)
 unfold lacB at eG0 g0 g1
 refine ret_raw func101 rfl (by kernel_rfl) ?_
 by_cases c0:chkL L=0
 ·obtain ⟨id,rfl,hid,hD⟩:=r2 c0
  have kn:=(chkL_iff.1 c0).n
  have ho:=run_ordered (base:=base) (n:=(L.C.length:Int)) (hO.ext xh) (by omega)
  have r:lcdE L o=ordL o L.C.length:=by unfold lcdE;rw [if_pos c0]
  rw [r]
  have hsp:=@Nat.succ_ne_zero;repeat' (first|simp (disch:=first|exact dq|fail) only [go_sem,↓reduceIte,hsp,← eG0,g0,e1,eq_self,g1,hlc,ho]|refine WP_drw ?_|refine cnd_intro (fun hsp=>?_) fun hsp=>?_)
  exact ⟨xh,_,rfl,⟨rfl,rfl,rfl⟩,fun _=>⟨id,rfl,hD⟩⟩
 ·have t0:(chkL L=0)=False:=eq_false c0
  have q:=r1 c0
  subst q
  have r:lcdE L o=chkL L:=by unfold lcdE;rw [if_neg c0]
  rw [r]
  have hsp:=@Nat.succ_ne_zero;repeat' (first|simp (disch:=first|exact dq|fail) only [go_sem,↓reduceIte,hsp,← eG0,g0,e1,t0,g1]|refine WP_drw ?_|refine cnd_intro (fun hsp=>?_) fun hsp=>?_)
  exact ⟨xh,_,rfl,⟨rfl,rfl,rfl⟩,fun q=>absurd q (by simp)⟩
def xpsE (L:Lac) (o:List Int):Bool × Int:=if lcdE L o=0 then (xplD L o o.length,0) else (false,lcdE L o)
theorem lcdE_ok {L:Lac} {o:List Int} (h:lcdE L o=0):chkL L=0∧Ord L.C.length o:=by
 unfold lcdE at h
 split at h
 ·rename_i c;exact ⟨c,ordL_iff.1 h⟩
 ·rename_i c;exact absurd h c
theorem run_Explains {base:Nat} {h:Heap} {v ov:AVal} {L:Lac} {o:List Int} (hL:LacAt h v L) (hO:Ints h ov o) :
  callL prog raw base (.fn 61 [] []) [v,ov] h=some (.tuple [.bool (xpsE L o).1,.int .i64 (xpsE L o).2],h):=by
 have hL0:=hL
 obtain ⟨cv,rv,rfl,hC,hR⟩:=hL
 have o1:=hC.one
 have o2:=hR.one
 have o3:=hO.one
 obtain ⟨G0,eG0⟩:∃ G0,G0=h++[lacB L.T cv rv]:=⟨_,rfl⟩
 have x0:Ext h G0:=by rw [eG0];exact .app .refl
 have g0:G0[h.length]?=some (lacB L.T cv rv):=by rw [eG0];exact get_eq rfl
 have l0:G0.length=h.length+1:=by rw [eG0];simp
 obtain ⟨w1,H1,e1,x1,a,rfl,oa,ha⟩:=run_laced (base:=h.length) (h:=G0) (by omega) (hL0.ext x0) (hO.ext x0)
 have l1:=x1.len
 unfold lacB at eG0 g0
 refine callL_run func61 rfl rfl ?_
 by_cases c:lcdE L o=0
 ·obtain ⟨c1,c2⟩:=lcdE_ok c
  obtain ⟨id,rfl,hD⟩:=ha c
  have r:xpsE L o=(xplD L o o.length,0):=by unfold xpsE;rw [if_pos c]
  rw [c] at e1
  have he:=run_explainsD (base:=h.length) hD (chkL_iff.1 c1).n.2 (hO.ext (x0.trans x1)) c2
  have hsp:=@Nat.succ_ne_zero;repeat' (first|simp (disch:=first|exact dq|fail) only [go_sem,↓reduceIte,hsp,← eG0,g0,e1,eq_self,he]|refine WP_drw ?_|refine cnd_intro (fun hsp=>?_) fun hsp=>?_)
  rw [r]
  exact fBI rfl rfl (x0.trans x1)
 ·have t0:(lcdE L o=0)=False:=eq_false c
  have r:xpsE L o=(false,lcdE L o):=by unfold xpsE;rw [if_neg c]
  have hsp:=@Nat.succ_ne_zero;repeat' (first|simp (disch:=first|exact dq|fail) only [go_sem,↓reduceIte,hsp,← eG0,g0,e1,t0]|refine WP_drw ?_|refine cnd_intro (fun hsp=>?_) fun hsp=>?_)
  rw [r]
  exact fBI rfl rfl (x0.trans x1)
def prmB (l:List Int) (n:Nat):Bool:=decide (l.length=n) && (upto n).all fun k=>decide (k ∈ l)
end Go.AM
namespace Go.AM
open Go.Proofs.Tryz
attribute [-go_sem] put_ne put_same
attribute [local go_sem ↓] put_if
def makE (o:List Int) (ms:List (Int × Int)):List Int × Int:=if aloL o=0 then makF o.length ms o else ([],aloL o)
theorem perm_small' {l m:List Int} (h:l.Perm m) (hs:Small m):Small l:=⟨by rw [h.length_eq];exact hs.1,fun x hx=>hs.2 x (h.mem_iff.1 hx)⟩
set_option maxHeartbeats 2000000 in
theorem run_Make {base:Nat} {h:Heap} {v mv:AVal} {o:List Int} {ms:List (Int × Int)} (hb:base≤h.length) (hI:Ints h v o) (hM:Rows encM h mv ms) (hml:ms.length≤100000) :
  Ret prog raw base (.fn 39 [] []) [v,mv] h (fun w H=>Ext h H∧∃ x,w=.tuple [x,.int .i64 (makE o ms).2]∧OwnE encI 3 h.length H x (makE o ms).1):=by
 have ha:=fun base=>run_alone (base:=base) hI
 have hv1:=hI.one
 have hm1:=hM.one
 by_cases c:aloL o=0
 ·obtain ⟨c1,c2,c3⟩:=aloL_iff.1 c
  rw [c] at ha
  have hsm:=small_ints hI (by omega)
  obtain ⟨n,en⟩:∃ n,n=o.length:=⟨_,rfl⟩
  have r:makE o ms=makF n ms o:=by unfold makE;rw [if_pos c,en]
  rw [r]
  obtain ⟨v1,H1,e1,x1,o1⟩:=run_cloneE (base:=base) hI hsm
  have hl1:=x1.len
  have ov1:=o1.one
  have hlm:=(hM.ext x1).len (P:=prog) Fc.el37
  refine ret_raw func39 rfl (by kernel_rfl) ?_
  have hsp:=@Nat.succ_ne_zero;repeat' (first|simp (disch:=first|exact dq|fail) only [go_sem,↓reduceIte,hsp,ha,eq_self,e1,hlm]|refine WP_drw ?_|refine cnd_intro (fun hsp=>?_) fun hsp=>?_)
  refine WP_count [(4,9),(19,42)] 0 ms.length (Nat.zero_le _) (fun _ i fr K=>fr 19=.int .i64 (i:Int)∧Ext h K∧∃ o' w,fr 7=w∧OwnE encI 3 h.length K w o'∧o'.Perm o∧makF n ms o=makF n (ms.drop i) o') ?_ ?_ ?_
  ·exact ⟨by (simp (disch:=first|exact dq|fail) only [go_sem,↓reduceIte,Int.natCast_zero];first|done|rfl),x1,o,v1,by simp (disch:=first|exact dq|fail) only [go_sem,↓reduceIte],o1,.refl _,rfl⟩
  ·rintro i fr K hi0 hi hA ⟨r19,xK,o',w,r7,hO,hp,hF⟩
   have p17:=hA 17 rfl
   have p18:=hA 18 rfl
   try simp (disch:=first|exact dq|fail) only [go_sem,↓reduceIte] at p17 p18
   have hlt:((i:Int)<(ms.length:Int))=True:=eq_true (by omega)
   obtain ⟨⟨a,b⟩,em⟩:∃ m,ms[i]=m:=⟨_,rfl⟩
   have hx:ms[i]?=some (a,b):=by rw [List.getElem?_eq_getElem hi,em]
   have hMK:=hM.ext xK
   have ad:=hMK.addr (P:=prog) (i:=(i:Int)) Fc.el37 Fc.ar37 (by omega) (by omega)
   rw [Int.toNat_natCast] at ad
   have ld:=hMK.load (P:=prog) Fc.ty41 hx
   simp only [encM] at ad ld
   have hw1:=hO.one
   have hKl:=xK.len
   have hol:o'.length=n:=by rw [hp.length_eq,en]
   obtain ⟨G,eG⟩:∃ G,G=K++[mvB a b]:=⟨_,rfl⟩
   have xG:Ext K G:=by rw [eG];exact .app .refl
   have gG:G[K.length]?=some (mvB a b):=by rw [eG];exact get_eq rfl
   have hGl:=xG.len
   have iG:=(ownE_ints hO (perm_small' hp hsm)).ext xG
   have lG:=lenI iG
   have hst:makF n (ms.drop i) o'=if (0≤a∧a<(n:Int))∧(0≤b∧b<(n:Int)) then makF n (ms.drop (i+1)) (mvL o' a.toNat b.toNat) else ([],1):=by
    rw [List.drop_eq_getElem_cons hi,em,makF]
   unfold mvB at eG gG
   by_cases q1:0≤a∧a<(n:Int)
   ·have t1:decide (0≤a∧a≤(o'.length:Int)-1)=true:=decide_eq_true (by omega)
    by_cases q2:0≤b∧b<(n:Int)
    ·have t2:decide (0≤b∧b≤(o'.length:Int)-1)=true:=decide_eq_true (by omega)
     rw [if_pos ⟨q1,q2⟩] at hst
     obtain ⟨a',rfl⟩:=Int.eq_ofNat_of_zero_le q1.1
     obtain ⟨b',rfl⟩:=Int.eq_ofNat_of_zero_le q2.1
     rw [Int.toNat_natCast,Int.toNat_natCast] at hst
     obtain ⟨w2,H2,e2,x2,o2⟩:=run_made (base:=base) (f:=a') (t:=b') (by omega) iG (by omega) (by omega) (by omega)
     have ow2:=o2.one
     have hsp:=@Nat.succ_ne_zero;repeat' (first|simp (disch:=first|exact dq|fail) only [go_sem,↓reduceIte,hsp,r19,r7,p17,p18,hlt,ad,ld,← eG,gG,lG,t1,t2,e2]|refine WP_drw ?_|refine cnd_intro (fun hsp=>?_) fun hsp=>?_)
     refine ⟨agq,by omega,xK.trans (xG.trans x2),_,w2,rfl,OwnE.low (b':=h.length) (.inl o2) (by omega),(mvL_perm (by omega) (by omega)).trans hp,by rw [hF,hst]⟩
    ·have t2:decide (0≤b∧b≤(o'.length:Int)-1)=false:=decide_eq_false (by omega)
     rw [if_neg (fun q=>q2 q.2)] at hst
     have hsp:=@Nat.succ_ne_zero;repeat' (first|simp (disch:=first|exact dq|fail) only [go_sem,↓reduceIte,hsp,r19,r7,p17,p18,hlt,ad,ld,← eG,gG,lG,t1,t2]|refine WP_drw ?_|refine cnd_intro (fun hsp=>?_) fun hsp=>?_)
     exact ⟨xK.trans xG,_,by rw [hF,hst],by rw [hF,hst];exact .inl Own.nil⟩
   ·have t1:decide (0≤a∧a≤(o'.length:Int)-1)=false:=decide_eq_false (by omega)
    rw [if_neg (fun q=>q1 q.1)] at hst
    have hsp:=@Nat.succ_ne_zero;repeat' (first|simp (disch:=first|exact dq|fail) only [go_sem,↓reduceIte,hsp,r19,r7,p17,p18,hlt,ad,ld,← eG,gG,lG,t1]|refine WP_drw ?_|refine cnd_intro (fun hsp=>?_) fun hsp=>?_)
    exact ⟨xK.trans xG,_,by rw [hF,hst],by rw [hF,hst];exact .inl Own.nil⟩
  ·rintro fr K hA ⟨r19,xK,o',w,r7,hO,hp,hF⟩
   have p17:=hA 17 rfl
   have p18:=hA 18 rfl
   try simp (disch:=first|exact dq|fail) only [go_sem,↓reduceIte] at p17 p18
   have hlt:((ms.length:Int)<(ms.length:Int))=False:=eq_false (by omega)
   have hw1:=hO.one
   rw [List.drop_length,makF] at hF
   have hsp:=@Nat.succ_ne_zero;repeat' (first|simp (disch:=first|exact dq|fail) only [go_sem,↓reduceIte,hsp,r19,r7,p17,p18,hlt]|refine WP_drw ?_|refine cnd_intro (fun hsp=>?_) fun hsp=>?_)
   exact ⟨xK,_,by rw [hF],by rw [hF];exact hO⟩
 ·have t1:(aloL o=0)=False:=eq_false c
  have r:makE o ms=([],aloL o):=by unfold makE;rw [if_neg c]
  rw [r]
  refine ret_raw func39 rfl (by kernel_rfl) ?_
  have hsp:=@Nat.succ_ne_zero;repeat' (first|simp (disch:=first|exact dq|fail) only [go_sem,↓reduceIte,hsp,ha,t1]|refine WP_drw ?_|refine cnd_intro (fun hsp=>?_) fun hsp=>?_)
  exact ⟨.refl,_,rfl,.inl Own.nil⟩
end Go.AM
namespace Go.AM
open Go.Proofs.Tryz
attribute [-go_sem] put_ne put_same
attribute [local go_sem ↓] put_if
set_option maxHeartbeats 1000000 in
theorem run_turned {base:Nat} {h:Heap} {v rv:AVal} {o ring:List Int} (hb:base≤h.length) (hO:Ints h v o) (hR:Ints h rv ring) (h0:0<o.length) (hl:o.length≤1000) (hin:∀ x ∈ ring,0≤x∧x<(o.length:Int)) :
  Ret prog raw base (.fn 112 [] []) [v,rv] h (fun w H=>Ext h H∧Own encI 3 h.length H w (trnL o ring)):=by
 have ov:=hO.one
 have orr:=hR.one
 have hlo:=lenI hO
 have hrb:=hR.1.1
 obtain ⟨n,en⟩:∃ n,o.length=n:=⟨_,rfl⟩
 obtain ⟨m,em⟩:∃ m,ring.length=m:=⟨_,rfl⟩
 rw [en] at hlo h0 hl hin
 rw [em] at hrb
 obtain ⟨G,eG⟩:∃ G,G=h++[srB (List.replicate n 0) 3 0]:=⟨_,rfl⟩
 have xG:Ext h G:=by rw [eG];exact .app .refl
 have gG:G[h.length]?=some (iB (List.replicate n 0) 0):=by rw [eG];exact get_eq rfl
 have mk:makeSliceA prog h 22 (.int .i64 (n:Int)) (.int .i64 (n:Int))=some (.slice (some ⟨h.length,0,0⟩) n n,G):=by
  rw [make_full Fc.el22 (by omega) (by omega),rep_zero,eG]
 have hOR:=(hO.ext xG).rows
 have cp:copyA prog base G 22 (.slice (some ⟨h.length,0,0⟩) n n) v=some (.int .i64 (n:Int),h++[srB o 3 0]):=by
  have hs:=stI (z:=o) (o:=0) gG hb (by simp [en])
  have e:(List.replicate n (0:Int)).take 0++o++(List.replicate n 0).drop (0+o.length)=o:=by
   rw [List.take_zero,List.nil_append,List.drop_of_length_le (by simp [en]),List.append_nil]
  rw [e] at hs
  have f1:=hOR.firstN
  have f2:=hOR.lenA
  rw [en] at f1 f2
  have hz:encI.z=1:=rfl
  rw [hz] at f1 f2
  rw [flat_encI] at f1
  simp only [copyA,Fc.el22,f2,Nat.min_self,f1,hs]
  rw [eG,List.set_append_right _ _ (Nat.le_refl _),Nat.sub_self]
  rfl
 have hlr:∀ {H:Heap},Ext h H→lenOpA prog H 22 rv=some (.int .i64 (m:Int)):=fun {H} e=>by rw [← em];exact lenI (hR.ext e)
 have xa:∀ {l:List Int},Ext h (h++[srB l 3 0]):=fun {l}=>.app .refl
 have lr0:=hlr (xa (l:=o))
 have lT:∀ i,(trnN o ring i).length=n:=fun i=>by rw [trnN_len,en]
 refine ret_raw func112 rfl (by kernel_rfl) ?_
 have hsp:=@Nat.succ_ne_zero;repeat' (first|simp (disch:=first|exact dq|fail) only [go_sem,↓reduceIte,hsp,hlo,mk,cp,lr0]|refine WP_drw ?_|refine cnd_intro (fun hsp=>?_) fun hsp=>?_)
 refine WP_count [(6,7),(16,35)] 0 m (Nat.zero_le _) (fun _ i fr H=>fr 16=.int .i64 (i:Int)∧H=h++[srB (trnN o ring i) 3 0]) ?_ ?_ ?_
 ·exact ⟨by (simp (disch:=first|exact dq|fail) only [go_sem,↓reduceIte,Int.natCast_zero];first|done|rfl),rfl⟩
 ·rintro i fr H hi0 hi hA2 ⟨r16,eH⟩
  have q0:=hA2 0 rfl
  have q1:=hA2 1 rfl
  have q4:=hA2 4 rfl
  have q5:=hA2 5 rfl
  have q14:=hA2 14 rfl
  have q15:=hA2 15 rfl
  try simp (disch:=first|exact dq|fail) only [go_sem,↓reduceIte] at q0 q1 q4 q5 q14 q15
  have hlt:((i:Int)<(m:Int))=True:=eq_true (by omega)
  have xH:Ext h H:=by rw [eH];exact .app .refl
  have gH:H[h.length]?=some (srB (trnN o ring i) 3 0):=by rw [eH];exact get_eq rfl
  have iR:=hR.ext xH
  have lrH:=hlr xH
  have ai:=adrI (i:=(i:Int)) (by omega) iR (by omega)
  rw [Int.toNat_natCast] at ai
  have li:=loadI iR (i:=i) (by omega)
  have hp:=hin _ (getD_mem (l:=ring) (i:=i) (by omega))
  obtain ⟨p,ep⟩:=Int.eq_ofNat_of_zero_le hp.1
  rw [ep] at li hp
  obtain ⟨j,ej⟩:∃ j,j=(i+1) % m:=⟨_,rfl⟩
  have hjm:j<m:=by rw [ej];exact Nat.mod_lt _ (by omega)
  have hrem:binA prog .rem 3 (.int .i64 ((i:Int)+1)) (.int .i64 (m:Int))=some (.int .i64 (j:Int)):=by
   have:=remN (x:=(i:Int)+1) (n:=m) (by omega) (by omega)
   rw [this,ej,show ((i:Int)+1)=((i+1:Nat):Int) by omega,Int.toNat_natCast]
  have aj:=adrI (i:=(j:Int)) (by omega) iR (by omega)
  rw [Int.toNat_natCast] at aj
  have lj:=loadI iR (i:=j) (by omega)
  have hq:=hin _ (getD_mem (l:=ring) (i:=j) (by omega))
  obtain ⟨r,er⟩:=Int.eq_ofNat_of_zero_le hq.1
  rw [er] at lj hq
  have iO:=hO.ext xH
  have ap:=adrI (i:=(p:Int)) (by omega) iO (by omega)
  rw [Int.toNat_natCast] at ap
  have lp:=loadI iO (i:=p) (by omega)
  have ar:indexAddrA prog 22 (.slice (some ⟨h.length,0,0⟩) n n) (.int .i64 (r:Int))=some (.ptr (some ⟨h.length,0,r⟩)):=by
   rw [adr_sl Fc.el22 Fc.ar22 (by omega) (by omega),Int.toNat_natCast,Nat.mul_one,Nat.zero_add]
  have hlTi:=lT i
  have hst:∀ {F:ABlk→Heap},stQ base h.length (some (srB (trnN o ring i) 3 0)) 0 r [.int .i64 (o.getD p 0)] F=some (F (srB (trnN o ring (i+1)) 3 0)):=fun {F}=>by
   rw [stQ_ints (by omega),trnN,trnS,em,← ej,er,ep,Int.toNat_natCast,Int.toNat_natCast]
  have hset:H.set h.length (srB (trnN o ring (i+1)) 3 0)=h++[srB (trnN o ring (i+1)) 3 0]:=by
   rw [eH,List.set_append_right _ _ (Nat.le_refl _),Nat.sub_self];rfl
  have hsp:=@Nat.succ_ne_zero;repeat' (first|simp (disch:=first|exact dq|fail) only [go_sem,↓reduceIte,hsp,r16,q0,q1,q4,q5,q14,q15,hlt,ai,li,lrH,hrem,aj,lj,ap,lp,ar,gH,hst]|refine WP_drw ?_|refine cnd_intro (fun hsp=>?_) fun hsp=>?_)
  exact ⟨agq,by omega,hset⟩
 ·rintro fr H hA2 ⟨r16,eH⟩
  have q0:=hA2 0 rfl
  have q1:=hA2 1 rfl
  have q4:=hA2 4 rfl
  have q5:=hA2 5 rfl
  have q14:=hA2 14 rfl
  have q15:=hA2 15 rfl
  try simp (disch:=first|exact dq|fail) only [go_sem,↓reduceIte] at q0 q1 q4 q5 q14 q15
  have hlt:((m:Int)<(m:Int))=False:=eq_false (by omega)
  have hsp:=@Nat.succ_ne_zero;repeat' (first|simp (disch:=first|exact dq|fail) only [go_sem,↓reduceIte,hsp,r16,q0,q1,q4,q5,q14,q15,hlt]|refine WP_drw ?_|refine cnd_intro (fun hsp=>?_) fun hsp=>?_)
  refine ⟨by rw [eH];exact .app .refl,.inr ⟨h.length,0,by rw [trnL,lT],?_,Nat.le_refl _,by rw [trnL,lT];exact h0⟩⟩
  rw [eH,trnL,em,rowE,flat_encI]
  exact get_eq rfl
end Go.AM
namespace Go.AM
theorem nat_least {P:Nat→Prop} {n:Nat} (h:P n):∃ m,P m∧m≤n∧∀ k,k<m→¬ P k:=by
 induction n using Nat.strongRecOn with
 | ind n ih =>
  by_cases c:∃ k,k<n∧P k
  ·obtain ⟨k,h1,h2⟩:=c
   obtain ⟨m,m1,m2,m3⟩:=ih k h1 h2
   exact ⟨m,m1,by omega,m3⟩
  ·exact ⟨n,h,Nat.le_refl _,fun k hk q=>c ⟨k,hk,q⟩⟩
theorem trnN_any {o ring:List Int} {n m:Nat} (ho:o.length=n) (hm:ring.length=m) (hin:∀ x ∈ ring,0≤x∧x<(n:Int)) (hn:ring.Nodup):∀ {k},k≤m→∀ q,q<n →
  (∃ i,i<k∧ring.getD ((i+1) % m) 0=(q:Int)∧(trnN o ring k).getD q 0=o.getD (ring.getD i 0).toNat 0) ∨ ((∀ i,i<k→ring.getD ((i+1) % m) 0 ≠ (q:Int))∧(trnN o ring k).getD q 0=o.getD q 0)
 | 0,_,q,hq=>.inr ⟨fun i hi=>by omega,rfl⟩
 | k+1,hk,q,hq=>by
  have ih:=trnN_any ho hm hin hn (k:=k) (by omega) q hq
  have hj:(k+1) % m<m:=Nat.mod_lt _ (by omega)
  have hr:=hin _ (getD_mem' (d:=(0:Int)) (show (k+1) % m<ring.length by omega))
  have e:(trnN o ring (k+1)).getD q 0=if (ring.getD ((k+1) % m) 0).toNat=q then o.getD (ring.getD k 0).toNat 0 else (trnN o ring k).getD q 0:=by
   rw [trnN,trnS,getD_setZ (by rw [trnN_len,hm,ho];omega),hm]
  by_cases c:(ring.getD ((k+1) % m) 0).toNat=q
  ·rw [if_pos c] at e
   exact .inl ⟨k,by omega,by omega,e⟩
  ·rw [if_neg c] at e
   rcases ih with ⟨i,h1,h2,h3⟩|⟨h1,h2⟩
   ·exact .inl ⟨i,by omega,h2,by rw [e,h3]⟩
   ·refine .inr ⟨fun i hi=>?_,by rw [e,h2]⟩
    by_cases ei:i=k
    ·rw [ei];omega
    ·exact h1 i (by omega)
theorem trnL_any {n:Nat} {o ring:List Int} (ho:Ord n o) (hin:∀ x ∈ ring,0≤x∧x<(n:Int)) (hn:ring.Nodup):Ord n (trnL o ring):=by
 obtain ⟨m,hm⟩:∃ m,ring.length=m:=⟨_,rfl⟩
 have hat:=fun q hq=>trnN_any ho.1 hm hin hn (Nat.le_refl m) q hq
 have hl:(trnL o ring).length=n:=by rw [trnL,trnN_len,ho.1]
 have hrg:∀ i,i<m→(ring.getD i 0).toNat<n∧ring.getD i 0=((ring.getD i 0).toNat:Int):=fun i hi=>by
  have:=hin _ (getD_mem' (d:=(0:Int)) (show i<ring.length by omega));omega
 have hinj:∀ i j,i<m→j<m→ring.getD i 0=ring.getD j 0→i=j:=fun i j hi hj e=>by
  rw [getD_at (show i<ring.length by omega),getD_at (show j<ring.length by omega)] at e
  exact nodup_inj hn _ _ e
 have hmod:∀ i j,i<m→j<m→(i+1) % m=(j+1) % m→i=j:=fun i j hi hj e=>by
  by_cases c1:i+1=m
  ·rw [c1,Nat.mod_self] at e
   by_cases c2:j+1=m
   ·omega
   ·rw [Nat.mod_eq_of_lt (by omega)] at e;omega
  ·rw [Nat.mod_eq_of_lt (show i+1<m by omega)] at e
   by_cases c2:j+1=m
   ·rw [c2,Nat.mod_self] at e;omega
   ·rw [Nat.mod_eq_of_lt (by omega)] at e;omega
 have hpre:∀ i,i<m→∃ j,j<m∧(j+1) % m=i:=fun i hi=>by
  by_cases c:i=0
  ·exact ⟨m-1,by omega,by rw [show m-1+1=m by omega,Nat.mod_self,c]⟩
  ·exact ⟨i-1,by omega,by rw [show i-1+1=i by omega,Nat.mod_eq_of_lt hi]⟩
 have hval:∀ q,q<n→∃ p,p<n∧(trnL o ring).getD q 0=o.getD p 0:=fun q hq=>by
  rw [trnL,hm]
  rcases hat q hq with ⟨i,h1,_,h3⟩|⟨_,h2⟩
  ·exact ⟨_,(hrg i h1).1,h3⟩
  ·exact ⟨q,hq,h2⟩
 have hone:∀ q1 q2,q1<n→q2<n→(trnL o ring).getD q1 0=(trnL o ring).getD q2 0→q1=q2:=fun q1 q2 h1 h2 e=>by
  rw [trnL,hm] at e
  rcases hat q1 h1 with ⟨i,a1,a2,a3⟩|⟨a1,a2⟩<;>rcases hat q2 h2 with ⟨j,b1,b2,b3⟩|⟨b1,b2⟩
  ·rw [a3,b3] at e
   have:=ord_inj ho (hrg i a1).1 (hrg j b1).1 e
   have e2:=hinj i j a1 b1 (by rw [(hrg i a1).2,(hrg j b1).2,this])
   rw [e2,b2] at a2;omega
  ·rw [a3,b2] at e
   have e1:=ord_inj ho (hrg i a1).1 h2 e
   obtain ⟨j,hj,ej⟩:=hpre i a1
   exact absurd (by rw [ej,(hrg i a1).2,e1]) (b1 j hj)
  ·rw [a2,b3] at e
   have e1:=ord_inj ho h1 (hrg j b1).1 e
   obtain ⟨i,hi,ei⟩:=hpre j b1
   exact absurd (by rw [ei,(hrg j b1).2,← e1]) (a1 i hi)
  ·rw [a2,b2] at e
   exact ord_inj ho h1 h2 e
 refine ⟨hl,fun x hx=>?_,?_⟩
 ·obtain ⟨q,hq,rfl⟩:=List.mem_iff_getElem.1 hx
  obtain ⟨p,hp,e⟩:=hval q (by omega)
  rw [getD_at hq] at e
  rw [e]
  exact (ord_at ho hp).2
 ·rw [List.nodup_iff_pairwise_ne,List.pairwise_iff_getElem]
  intro i j hi hj hij e
  have:=hone i j (by omega) (by omega) (by rw [getD_at hi,getD_at hj,e])
  omega
end Go.AM
namespace Go.AM
open Go.Proofs.Tryz
attribute [-go_sem] put_ne put_same
attribute [local go_sem ↓] put_if
def wvL (L:Lac) (o:List Int) (n:Nat):List Int:=lst (fun t=>L.C.getD (o.getD (t % o.length) 0).toNat 0) n
theorem wvL_succ {L:Lac} {o:List Int} {n:Nat}:wvL L o (n+1)=wvL L o n++[L.C.getD (o.getD (n % o.length) 0).toNat 0]:=lst_succ
theorem wvL_len {L:Lac} {o:List Int} {n:Nat}:(wvL L o n).length=n:=lst_len
def wvE (L:Lac) (o:List Int) (n:Int):List Int × Int:=if lcdE L o=0 then (if 0≤n∧n≤999 then (wvL L o n.toNat,0) else ([],3)) else ([],lcdE L o)
set_option maxHeartbeats 2000000 in
theorem run_Weave {base:Nat} {h:Heap} {v ov:AVal} {L:Lac} {o:List Int} {n:Int} (hb:base≤h.length) (hL:LacAt h v L) (hO:Ints h ov o) :
  Ret prog raw base (.fn 55 [] []) [v,ov,.int .i64 n] h (fun w H=>Ext h H∧∃ x,w=.tuple [x,.int .i64 (wvE L o n).2]∧Own encI 3 h.length H x (wvE L o n).1):=by
 have hL0:=hL
 obtain ⟨cv,rv,rfl,hC,hR⟩:=hL
 have o1:=hC.one
 have o2:=hR.one
 have o3:=hO.one
 obtain ⟨G0,eG0⟩:∃ G0,G0=h++[lacB L.T cv rv]:=⟨_,rfl⟩
 have x0:Ext h G0:=by rw [eG0];exact .app .refl
 have g0:G0[h.length]?=some (lacB L.T cv rv):=by rw [eG0];exact get_eq rfl
 have l0:G0.length=h.length+1:=by rw [eG0];simp
 obtain ⟨w1,H1,e1,x1,a,rfl,oa,ha⟩:=run_laced (base:=base) (h:=G0) (by omega) (hL0.ext x0) (hO.ext x0)
 have l1:=x1.len
 have g1:=x1.get g0
 have xh:=x0.trans x1
 have hin:=fun base H=>run_in (base:=base) (h:=H) (n:=n) (lo:=0) (hi:=999)
 unfold lacB at eG0 g0 g1
 refine ret_raw func55 rfl (by kernel_rfl) ?_
 by_cases c:lcdE L o=0
 ·obtain ⟨c1,c2⟩:=lcdE_ok c
  have kn:=(chkL_iff.1 c1).n
  rw [c] at e1
  by_cases c3:0≤n∧n≤999
  ·have r:wvE L o n=(wvL L o n.toNat,0):=by unfold wvE;rw [if_pos c,if_pos c3]
   rw [r]
   obtain ⟨m,rfl⟩:=Int.eq_ofNat_of_zero_le c3.1
   rw [Int.toNat_natCast]
   rw [decide_eq_true c3] at hin
   have hsp:=@Nat.succ_ne_zero;repeat' (first|simp (disch:=first|exact dq|fail) only [go_sem,↓reduceIte,hsp,← eG0,g0,e1,eq_self,hin]|refine WP_drw ?_|refine cnd_intro (fun hsp=>?_) fun hsp=>?_)
   refine WP_count [(10,11),(25,42)] 0 m (Nat.zero_le _) (fun _ i fr H=>fr 25=.int .i64 (i:Int)∧Ext H1 H∧∃ w,fr 10=w∧Own encI 3 H1.length H w (wvL L o i)) ?_ ?_ ?_
   ·exact ⟨by (simp (disch:=first|exact dq|fail) only [go_sem,↓reduceIte,Int.natCast_zero];first|done|rfl),.refl,.slice none 0 0,by simp (disch:=first|exact dq|fail) only [go_sem,↓reduceIte],Own.nil⟩
   ·rintro i fr H hi0 hi hA ⟨r25,xH,w,r10,hW⟩
    have q1:=hA 1 rfl
    have q3:=hA 3 rfl
    have q6:=hA 6 rfl
    have q7:=hA 7 rfl
    have q24:=hA 24 rfl
    try simp (disch:=first|exact dq|fail) only [go_sem,↓reduceIte] at q1 q3 q6 q7 q24
    have hlt:((i:Int)<(m:Int))=True:=eq_true (by omega)
    have ow:=hW.one
    have lH:=xH.len
    have gH:=xH.get g1
    have iO:=hO.ext (xh.trans xH)
    have iC:=hC.ext (xh.trans xH)
    have hol:=lenI iO
    have hm:=c2.1
    have hrem:=remN (x:=(i:Int)) (n:=o.length) (by omega) (by omega)
    rw [Int.toNat_natCast] at hrem
    obtain ⟨j,ej⟩:∃ j,j=i % o.length:=⟨_,rfl⟩
    rw [← ej] at hrem
    have hj:j<o.length:=by rw [ej];exact Nat.mod_lt _ (by omega)
    have aj:=adrI (i:=(j:Int)) (by omega) iO (by omega)
    rw [Int.toNat_natCast] at aj
    have lj:=loadI iO hj
    have hk:=c2.2.1 _ (getD_mem hj)
    obtain ⟨k,ek⟩:=Int.eq_ofNat_of_zero_le hk.1
    rw [ek] at lj hk
    have ak:=adrI (i:=(k:Int)) (by omega) iC (by omega)
    rw [Int.toNat_natCast] at ak
    have lk:=loadI iC (i:=k) (by omega)
    obtain ⟨w',K2,ea,oW,lW,eW,oneW,kW⟩:=OwnE.snocI (base:=base) (x:=L.C.getD k 0) (.inl hW) (by omega) lH (by rw [wvL_len];omega)
    have hs:wvL L o (i+1)=wvL L o i++[L.C.getD k 0]:=by rw [wvL_succ,← ej,ek,Int.toNat_natCast]
    have hsp:=@Nat.succ_ne_zero;repeat' (first|simp (disch:=first|exact dq|fail) only [go_sem,↓reduceIte,hsp,r25,r10,q1,q3,q6,q7,q24,hlt,gH,hol,hrem,aj,lj,ak,lk,ea]|refine WP_drw ?_|refine cnd_intro (fun hsp=>?_) fun hsp=>?_)
    exact ⟨agq,by omega,eW _ (Nat.le_refl _) xH,w',rfl,by rw [hs];exact oW⟩
   ·rintro fr H hA ⟨r25,xH,w,r10,hW⟩
    have q1:=hA 1 rfl
    have q3:=hA 3 rfl
    have q6:=hA 6 rfl
    have q7:=hA 7 rfl
    have q24:=hA 24 rfl
    try simp (disch:=first|exact dq|fail) only [go_sem,↓reduceIte] at q1 q3 q6 q7 q24
    have hlt:((m:Int)<(m:Int))=False:=eq_false (by omega)
    have ow:=hW.one
    have hsp:=@Nat.succ_ne_zero;repeat' (first|simp (disch:=first|exact dq|fail) only [go_sem,↓reduceIte,hsp,r25,r10,q1,q3,q6,q7,q24,hlt]|refine WP_drw ?_|refine cnd_intro (fun hsp=>?_) fun hsp=>?_)
    exact ⟨xh.trans xH,_,rfl,hW.low (by omega)⟩
  ·have r:wvE L o n=([],3):=by unfold wvE;rw [if_pos c,if_neg c3]
   rw [r]
   rw [decide_eq_false c3] at hin
   have hsp:=@Nat.succ_ne_zero;repeat' (first|simp (disch:=first|exact dq|fail) only [go_sem,↓reduceIte,hsp,← eG0,g0,e1,eq_self,hin]|refine WP_drw ?_|refine cnd_intro (fun hsp=>?_) fun hsp=>?_)
   exact ⟨xh,_,rfl,Own.nil⟩
 ·have t0:(lcdE L o=0)=False:=eq_false c
  have r:wvE L o n=([],lcdE L o):=by unfold wvE;rw [if_neg c]
  rw [r]
  have hsp:=@Nat.succ_ne_zero;repeat' (first|simp (disch:=first|exact dq|fail) only [go_sem,↓reduceIte,hsp,← eG0,g0,e1,t0]|refine WP_drw ?_|refine cnd_intro (fun hsp=>?_) fun hsp=>?_)
  exact ⟨xh,_,rfl,Own.nil⟩
def trdE (L:Lac) (o ring:List Int):List Int × Int :=
 if lcdE L o ≠ 0 then ([],lcdE L o) else if ring.length<2 then ([],2) else if ¬ (ring.all fun x=>decide (0≤x∧x≤(L.C.length:Int)-1))=true then ([],1) else if twB ring=true then ([],5) else
 if (xplD L o o.length && xplD L (trnL o ring) o.length)=true then (trnL o ring,0) else ([],8)
set_option maxHeartbeats 2000000 in
theorem run_Turned {base:Nat} {h:Heap} {v ov gv:AVal} {L:Lac} {o ring:List Int} (hb:base≤h.length) (hL:LacAt h v L) (hO:Ints h ov o) (hG:Ints h gv ring) :
  Ret prog raw base (.fn 75 [] []) [v,ov,gv] h (fun w H=>Ext h H∧∃ x,w=.tuple [x,.int .i64 (trdE L o ring).2]∧Own encI 3 h.length H x (trdE L o ring).1):=by
 have hL0:=hL
 obtain ⟨cv,rv,rfl,hC,hR⟩:=hL
 have o1:=hC.one
 have o2:=hR.one
 have o3:=hO.one
 have o4:=hG.one
 obtain ⟨G0,eG0⟩:∃ G0,G0=h++[lacB L.T cv rv]:=⟨_,rfl⟩
 have x0:Ext h G0:=by rw [eG0];exact .app .refl
 have g0:G0[h.length]?=some (lacB L.T cv rv):=by rw [eG0];exact get_eq rfl
 have l0:G0.length=h.length+1:=by rw [eG0];simp
 obtain ⟨w1,H1,e1,x1,a,rfl,oa,ha⟩:=run_laced (base:=base) (h:=G0) (by omega) (hL0.ext x0) (hO.ext x0)
 have l1:=x1.len
 have g1:=x1.get g0
 have xh:=x0.trans x1
 have hgl:=lenI (hG.ext xh)
 unfold lacB at eG0 g0 g1
 refine ret_raw func75 rfl (by kernel_rfl) ?_
 by_cases c:lcdE L o=0
 ·obtain ⟨c1,c2⟩:=lcdE_ok c
  obtain ⟨id,rfl,hD⟩:=ha c
  have kn:=(chkL_iff.1 c1).n
  have u0:¬ (lcdE L o ≠ 0):=fun q=>q c
  rw [c] at e1
  by_cases c3:ring.length<2
  ·have t3:((ring.length:Int)<2)=True:=eq_true (by omega)
   have r:trdE L o ring=([],2):=by unfold trdE;rw [if_neg u0,if_pos c3]
   rw [r]
   have hsp:=@Nat.succ_ne_zero;repeat' (first|simp (disch:=first|exact dq|fail) only [go_sem,↓reduceIte,hsp,← eG0,g0,e1,eq_self,hgl,t3]|refine WP_drw ?_|refine cnd_intro (fun hsp=>?_) fun hsp=>?_)
   exact ⟨xh,_,rfl,Own.nil⟩
  ·have t3:((ring.length:Int)<2)=False:=eq_false (by omega)
   obtain ⟨H2,eH2⟩:∃ H2,H2=H1++[evB (.fn 99 [.agg [.int .i64 L.T,cv,rv]] [])]:=⟨_,rfl⟩
   have x2:Ext H1 H2:=by rw [eH2];exact .app .refl
   have l2:=x2.len
   have hev:=every_I (base:=base) (h:=H1) (v:=gv) (g:=.fn 99 [.agg [.int .i64 L.T,cv,rv]] []) (l:=ring) (fun x=>decide (0≤x∧x≤(L.C.length:Int)-1)) (by omega) ⟨rfl,rfl,rfl⟩ (hG.ext xh) (fun x _=>run_pos (hC.ext (xh.trans (.app .refl))) o2)
   rw [← eH2] at hev
   have xh2:=xh.trans x2
   cases c4:ring.all (fun x=>decide (0≤x∧x≤(L.C.length:Int)-1)) with
   | false =>
    rw [c4] at hev
    have r:trdE L o ring=([],1):=by unfold trdE;rw [if_neg u0,if_neg c3,if_pos (by rw [c4];simp)]
    rw [r]
    have hsp:=@Nat.succ_ne_zero;repeat' (first|simp (disch:=first|exact dq|fail) only [go_sem,↓reduceIte,hsp,← eG0,g0,e1,eq_self,hgl,t3,g1,hev]|refine WP_drw ?_|refine cnd_intro (fun hsp=>?_) fun hsp=>?_)
    exact ⟨xh2,_,rfl,Own.nil⟩
   | true =>
    rw [c4] at hev
    have u1:¬ (¬ (ring.all fun x=>decide (0≤x∧x≤(L.C.length:Int)-1))=true):=by rw [c4];simp
    have htw:=fun base=>run_twice (base:=base) (hG.ext xh2)
    have hin:∀ x ∈ ring,0≤x∧x<(L.C.length:Int):=fun x hx=>by have:=of_decide_eq_true (List.all_eq_true.1 c4 x hx);omega
    cases c5:twB ring with
    | true =>
     rw [c5] at htw
     have r:trdE L o ring=([],5):=by unfold trdE;rw [if_neg u0,if_neg c3,if_neg u1,if_pos c5]
     rw [r]
     have hsp:=@Nat.succ_ne_zero;repeat' (first|simp (disch:=first|exact dq|fail) only [go_sem,↓reduceIte,hsp,← eG0,g0,e1,eq_self,hgl,t3,g1,hev,htw]|refine WP_drw ?_|refine cnd_intro (fun hsp=>?_) fun hsp=>?_)
     exact ⟨xh2,_,rfl,Own.nil⟩
    | false =>
     rw [c5] at htw
     have hnd:ring.Nodup:=by
      have:=of_decide_eq_false c5
      exact Classical.not_not.1 this
     obtain ⟨w3,H3,e3,x3,oT⟩:=run_turned (base:=base) (by omega) (hO.ext xh2) (hG.ext xh2) (by rw [c2.1];omega) (by rw [c2.1];omega) (by rw [c2.1];exact hin)
     have ow:=oT.one
     have xh3:=xh2.trans x3
     have hT:=trnL_any c2 hin hnd
     have iT:=own_ints oT (ord_small hT (by omega))
     have f1:=fun base=>run_explainsD (base:=base) (hD.ext (x2.trans x3)) kn.2 (hO.ext xh3) c2
     have f2:=fun base=>run_explainsD (base:=base) (hD.ext (x2.trans x3)) kn.2 iT hT
     rw [hT.1,← c2.1] at f2
     have u2:¬ (twB ring=true):=by rw [c5];simp
     have r:trdE L o ring=if (xplD L o o.length && xplD L (trnL o ring) o.length)=true then (trnL o ring,0) else ([],8):=by unfold trdE;rw [if_neg u0,if_neg c3,if_neg u1,if_neg u2]
     rw [r]
     cases d1:xplD L o o.length with
     | false =>
      rw [d1] at f1
      have hsp:=@Nat.succ_ne_zero;repeat' (first|simp (disch:=first|exact dq|fail) only [go_sem,↓reduceIte,hsp,← eG0,g0,e1,eq_self,hgl,t3,g1,hev,htw,e3,f1]|refine WP_drw ?_|refine cnd_intro (fun hsp=>?_) fun hsp=>?_)
      exact ⟨xh3,_,rfl,Own.nil⟩
     | true =>
      rw [d1] at f1
      cases d2:xplD L (trnL o ring) o.length with
      | false =>
       rw [d2] at f2
       have hsp:=@Nat.succ_ne_zero;repeat' (first|simp (disch:=first|exact dq|fail) only [go_sem,↓reduceIte,hsp,← eG0,g0,e1,eq_self,hgl,t3,g1,hev,htw,e3,f1,f2]|refine WP_drw ?_|refine cnd_intro (fun hsp=>?_) fun hsp=>?_)
       exact ⟨xh3,_,rfl,Own.nil⟩
      | true =>
       rw [d2] at f2
       have hsp:=@Nat.succ_ne_zero;repeat' (first|simp (disch:=first|exact dq|fail) only [go_sem,↓reduceIte,hsp,← eG0,g0,e1,eq_self,hgl,t3,g1,hev,htw,e3,f1,f2]|refine WP_drw ?_|refine cnd_intro (fun hsp=>?_) fun hsp=>?_)
       exact ⟨xh3,_,rfl,oT.low xh2.len⟩
 ·have t0:(lcdE L o=0)=False:=eq_false c
  have r:trdE L o ring=([],lcdE L o):=by unfold trdE;rw [if_pos c]
  rw [r]
  have hsp:=@Nat.succ_ne_zero;repeat' (first|simp (disch:=first|exact dq|fail) only [go_sem,↓reduceIte,hsp,← eG0,g0,e1,t0]|refine WP_drw ?_|refine cnd_intro (fun hsp=>?_) fun hsp=>?_)
  exact ⟨xh,_,rfl,Own.nil⟩
end Go.AM
