/-
  The reference: gaps.
-/
import Derived.Test.YteanoaejoddnbaaGreatU22
set_option linter.unusedSimpArgs false
set_option linter.unusedVariables false
namespace Go.AM
open Go.Proofs.Tryz
attribute [-go_sem] put_ne put_same
attribute [local go_sem ↓] put_if
theorem rise_iff {l:List Int}:(sortB l=true∧twB l=false) ↔ ∀ i,i+1<l.length→l.getD i 0<l.getD (i+1) 0:=by
 constructor
 ·rintro ⟨h1,h2⟩ i hi
  have p:=sortB_pair h1
  have hn:l.Nodup:=Classical.not_not.1 (of_decide_eq_false h2)
  have a:=List.pairwise_iff_getElem.1 p i (i+1) (by omega) hi (by omega)
  have b:=List.pairwise_iff_getElem.1 (List.nodup_iff_pairwise_ne.1 hn) i (i+1) (by omega) hi (by omega)
  rw [getD_at (show i<l.length by omega),getD_at hi]
  omega
 ·intro h
  have hp:l.Pairwise (·<·):=by
   rw [List.pairwise_iff_getElem]
   intro i j hi hj hij
   have key:∀ d,i+1+d<l.length→l.getD i 0<l.getD (i+1+d) 0:=fun d=>by
    induction d with
    | zero=>exact fun hd=>h i hd
    | succ d ih=>exact fun hd=>by have:=ih (by omega);have:=h (i+1+d) (by omega);rw [show i+1+(d+1)=i+1+d+1 by omega];omega
   have:=key (j-(i+1)) (by omega)
   rw [show i+1+(j-(i+1))=j by omega,getD_at hi,getD_at hj] at this
   exact this
  refine ⟨pair_sortB (hp.imp fun q=>by omega),?_⟩
  unfold twB
  refine decide_eq_false ?_
  intro q
  exact q (hp.imp fun r=>by omega)
theorem any_take {α:Type} {p:α→Bool} {l:List α} {n:Nat} {x:α} (hx:l[n]?=some x):(l.take (n+1)).any p=((l.take n).any p || p x):=by
 rw [List.take_add_one,hx,List.any_append];simp
set_option maxHeartbeats 4000000 in
theorem run_rgapes {base:Nat} {h:Heap} {v gv:AVal} {L:Lac} {l:List Int} (hL:LacAt h v L) (hok:LacOk L) (hG:Ints h gv l) (hl:l.length≤1000) :
  callL prog raw base (.fn 73 [] []) [v,gv] h=some (.tuple [.int .i64 (gpsE L l).1,.int .i64 (gpsE L l).2],h):=by
 have hL0:=hL
 have hc:=chkL_iff.2 hok
 obtain ⟨cv,rv,rfl,hC,hR⟩:=hL
 have o1:=hC.one
 have o2:=hR.one
 have o3:=hG.one
 have hn:=hok.n
 obtain ⟨G,eG⟩:∃ G,G=h++[rcB L.T cv rv]:=⟨_,rfl⟩
 have xG:Ext h G:=by rw [eG];exact .app .refl
 have g0:G[h.length]?=some (rcB L.T cv rv):=by rw [eG];exact get_eq rfl
 have iG:=hG.ext xG
 have hlg:=lenI iG
 have hlc:=lenI (hC.ext xG)
 have u0:¬ (chkL L ≠ 0):=fun q=>q hc
 unfold rcB at eG g0
 refine callL_run func73 rfl rfl ?_
 have hsp:=@Nat.succ_ne_zero;repeat' (first|simp (disch:=first|exact dq|fail) only [go_sem,↓reduceIte,hsp,← eG]|refine WP_drw ?_|refine cnd_intro (fun hsp=>?_) fun hsp=>?_)
 refine WP_count [(4,26)] 0 l.length (Nat.zero_le _) (fun _ i fr H=>fr 6=.int .i64 (i:Int)∧H=G∧(l.take i).all (fun x=>decide (0≤x∧x≤(L.C.length:Int)-1))=true) ?_ ?_ ?_
 ·exact ⟨by (simp (disch:=first|exact dq|fail) only [go_sem,↓reduceIte,Int.natCast_zero];first|done|rfl),rfl,by simp⟩
 ·rintro i fr H hi0 hi hA ⟨r6,rfl,ha⟩
  have q1:=hA 1 rfl
  have q2:=hA 2 rfl
  try simp (disch:=first|exact dq|fail) only [go_sem,↓reduceIte] at q1 q2
  have hlt:((i:Int)<(l.length:Int))=True:=eq_true (by omega)
  have ai:=adrI (i:=(i:Int)) (by omega) iG (by omega)
  rw [Int.toNat_natCast] at ai
  have li:=loadI iG hi
  have hx:l[i]?=some (l.getD i 0):=getD_some hi
  have ho:=fun base=>run_off (base:=base) (h:=H) (n:=l.getD i 0) (lo:=0) (hi:=(L.C.length:Int)-1)
  by_cases c:0≤l.getD i 0∧l.getD i 0≤(L.C.length:Int)-1
  ·rw [decide_eq_true c] at ho
   have hsp:=@Nat.succ_ne_zero;repeat' (first|simp (disch:=first|exact dq|fail) only [go_sem,↓reduceIte,hsp,r6,q1,q2,hlg,hlt,ai,li,g0,hlc,ho,Bool.not_true]|refine WP_drw ?_|refine cnd_intro (fun hsp=>?_) fun hsp=>?_)
   exact ⟨agq,by omega,all_take hx ha (decide_eq_true c)⟩
  ·rw [decide_eq_false c] at ho
   have hsp:=@Nat.succ_ne_zero;repeat' (first|simp (disch:=first|exact dq|fail) only [go_sem,↓reduceIte,hsp,r6,q1,q2,hlg,hlt,ai,li,g0,hlc,ho,Bool.not_false]|refine WP_drw ?_|refine cnd_intro (fun hsp=>?_) fun hsp=>?_)
   have r:gpsE L l=(0,1):=by unfold gpsE;rw [if_neg u0,if_pos (by rw [all_no hx (decide_eq_false c)];simp)]
   rw [r]
   exact fII rfl rfl xG
 ·rintro fr H hA ⟨r6,rfl,ha⟩
  have q1:=hA 1 rfl
  have q2:=hA 2 rfl
  try simp (disch:=first|exact dq|fail) only [go_sem,↓reduceIte] at q1 q2
  have hlt:((l.length:Int)<(l.length:Int))=False:=eq_false (by omega)
  rw [List.take_length] at ha
  have u1:¬ (¬ (l.all fun x=>decide (0≤x∧x≤(L.C.length:Int)-1))=true):=by rw [ha];simp
  have hin:∀ x ∈ l,0≤x∧x<(L.C.length:Int):=fun x hx=>by have:=of_decide_eq_true (List.all_eq_true.1 ha x hx);omega
  have hsp:=@Nat.succ_ne_zero;repeat' (first|simp (disch:=first|exact dq|fail) only [go_sem,↓reduceIte,hsp,r6,q1,q2,hlg,hlt]|refine WP_drw ?_|refine cnd_intro (fun hsp=>?_) fun hsp=>?_)
  refine WP_count [(4,42)] 1 (max 1 l.length) (Nat.le_max_left _ _) (fun _ i fr K=>fr 7=.int .i64 (i:Int)∧K=H∧∀ j,j+1<i→l.getD j 0<l.getD (j+1) 0) ?_ ?_ ?_
  ·exact ⟨by (simp (disch:=first|exact dq|fail) only [go_sem,↓reduceIte,Int.natCast_zero];first|done|rfl),rfl,fun j hj=>by omega⟩
  ·rintro i fr2 K hi0 hi hA2 ⟨r7,rfl,hr⟩
   have d1:=hA2 1 rfl
   have d2:=hA2 2 rfl
   try simp (disch:=first|exact dq|fail) only [go_sem,↓reduceIte,q1,q2] at d1 d2
   have hi':i<l.length:=by omega
   have hlt2:((i:Int)<(l.length:Int))=True:=eq_true (by omega)
   have ai:=adrI (i:=(i:Int)) (by omega) iG (by omega)
   have s1:((i:Int)-1)=((i-1:Nat):Int):=by omega
   have aj:=adrI (i:=((i-1:Nat):Int)) (by omega) iG (by omega)
   rw [Int.toNat_natCast] at ai aj
   have li:=loadI iG hi'
   have lj:=loadI iG (i:=i-1) (by omega)
   by_cases c:l.getD i 0≤l.getD (i-1) 0
   ·have t1:(l.getD i 0≤l.getD (i-1) 0)=True:=eq_true c
    have hsp:=@Nat.succ_ne_zero;repeat' (first|simp (disch:=first|exact dq|fail) only [go_sem,↓reduceIte,hsp,r7,d1,d2,q1,q2,hlg,hlt2,ai,li,s1,aj,lj,t1]|refine WP_drw ?_|refine cnd_intro (fun hsp=>?_) fun hsp=>?_)
    have r:gpsE L l=(0,4):=by
     unfold gpsE
     rw [if_neg u0,if_neg u1,if_pos]
     by_cases e1:sortB l=true
     ·by_cases e2:twB l=true
      ·exact .inr (.inr e2)
      ·have:=rise_iff.1 ⟨e1,by simpa using e2⟩ (i-1) (by omega)
       rw [show i-1+1=i by omega] at this
       omega
     ·exact .inr (.inl (by simpa using e1))
    rw [r]
    exact fII rfl rfl xG
   ·have t1:(l.getD i 0≤l.getD (i-1) 0)=False:=eq_false c
    have hsp:=@Nat.succ_ne_zero;repeat' (first|simp (disch:=first|exact dq|fail) only [go_sem,↓reduceIte,hsp,r7,d1,d2,q1,q2,hlg,hlt2,ai,li,s1,aj,lj,t1]|refine WP_drw ?_|refine cnd_intro (fun hsp=>?_) fun hsp=>?_)
    refine ⟨agq,by omega,fun j hj=>?_⟩
    by_cases e:j+1<i
    ·exact hr j e
    ·rw [show j=i-1 by omega,show i-1+1=i by omega];omega
  ·rintro fr2 K hA2 ⟨r7,rfl,hr⟩
   have d1:=hA2 1 rfl
   have d2:=hA2 2 rfl
   try simp (disch:=first|exact dq|fail) only [go_sem,↓reduceIte,q1,q2] at d1 d2
   have hlt2:(((max 1 l.length:Nat):Int)<(l.length:Int))=False:=eq_false (by omega)
   obtain ⟨e1,e2⟩:=rise_iff.2 fun i hi=>hr i (by omega)
   by_cases c0:l.length=0
   ·have t0:((l.length:Int)=0)=True:=eq_true (by omega)
    have hnil:=List.eq_nil_of_length_eq_zero c0
    have hsp:=@Nat.succ_ne_zero;repeat' (first|simp (disch:=first|exact dq|fail) only [go_sem,↓reduceIte,hsp,r7,d1,d2,q1,q2,hlg,hlt2,t0]|refine WP_drw ?_|refine cnd_intro (fun hsp=>?_) fun hsp=>?_)
    have r:gpsE L l=(0,4):=by unfold gpsE;rw [if_neg u0,if_neg u1,if_pos (.inl hnil)]
    rw [r]
    exact fII rfl rfl xG
   ·have t0:((l.length:Int)=0)=False:=eq_false (by omega)
    have u2:¬ (l=[] ∨ sortB l=false ∨ twB l=true):=by
     rintro (q|q|q)
     ·rw [q] at c0;simp at c0
     ·rw [e1] at q;cases q
     ·rw [e2] at q;cases q
    obtain ⟨f,ef⟩:∃ f:Int→Bool,f=fun k=>l.any fun p=>fitB L p.toNat k.toNat:=⟨_,rfl⟩
    have hsp:=@Nat.succ_ne_zero;repeat' (first|simp (disch:=first|exact dq|fail) only [go_sem,↓reduceIte,hsp,r7,d1,d2,q1,q2,hlg,hlt2,t0]|refine WP_drw ?_|refine cnd_intro (fun hsp=>?_) fun hsp=>?_)
    refine WP_count [(8,73)] 0 L.C.length (Nat.zero_le _) (fun _ k fr K2=>fr 9=.int .i64 (k:Int)∧K2=K∧fr 8=.int .i64 ((l.length:Int)-(((upto k).filter f).length:Nat))) ?_ ?_ ?_
    ·exact ⟨by (simp (disch:=first|exact dq|fail) only [go_sem,↓reduceIte,Int.natCast_zero];first|done|rfl),rfl,by simp (disch:=first|exact dq|fail) only [go_sem,↓reduceIte];simp [upto,lst]⟩
    ·rintro k fr3 K2 hk0 hk hA3 ⟨r9,rfl,r8⟩
     have z1:=hA3 1 rfl
     have z2:=hA3 2 rfl
     have z4:=hA3 4 rfl
     have z5:=hA3 5 rfl
     try simp (disch:=first|exact dq|fail) only [go_sem,↓reduceIte,d1,d2] at z1 z2 z4 z5
     have hlt3:((k:Int)<(L.C.length:Int))=True:=eq_true (by omega)
     have hfl:((upto k).filter f).length≤k:=Nat.le_trans (List.length_filter_le _ _) (by rw [upto_len];omega)
     have hsp:=@Nat.succ_ne_zero;repeat' (first|simp (disch:=first|exact dq|fail) only [go_sem,↓reduceIte,hsp,r9,r8,z1,z2,z4,z5,d1,d2,q1,q2,g0,hlc,hlt3]|refine WP_drw ?_|refine cnd_intro (fun hsp=>?_) fun hsp=>?_)
     refine WP_count [(10,70)] 0 l.length (Nat.zero_le _) (fun _ i fr K3=>fr 11=.int .i64 (i:Int)∧K3=K2∧fr 10=.bool ((l.take i).any fun p=>fitB L p.toNat k)) ?_ ?_ ?_
     ·exact ⟨by (simp (disch:=first|exact dq|fail) only [go_sem,↓reduceIte,Int.natCast_zero];first|done|rfl),rfl,by simp (disch:=first|exact dq|fail) only [go_sem,↓reduceIte];rfl⟩
     ·rintro i fr4 K3 hi0 hi hA4 ⟨r11,rfl,r10⟩
      have y1:=hA4 1 rfl
      have y2:=hA4 2 rfl
      have y4:=hA4 4 rfl
      have y5:=hA4 5 rfl
      have y8:=hA4 8 rfl
      have y9:=hA4 9 rfl
      try simp (disch:=first|exact dq|fail) only [go_sem,↓reduceIte,z1,z2,z4,z5] at y1 y2 y4 y5 y8 y9
      have hlt4:((i:Int)<(l.length:Int))=True:=eq_true (by omega)
      have ai:=adrI (i:=(i:Int)) (by omega) iG (by omega)
      rw [Int.toNat_natCast] at ai
      have li:=loadI iG hi
      have hx:l[i]?=some (l.getD i 0):=getD_some hi
      have hb:=hin _ (getD_mem hi)
      obtain ⟨p,ep⟩:=Int.eq_ofNat_of_zero_le hb.1
      have hnx:=any_take (p:=fun p:Int=>fitB L p.toNat k) hx
      rw [ep,Int.toNat_natCast] at hnx
      rw [ep] at li
      have hft:=fun base=>run_rfits (base:=base) (p:=p) (k:=k) (hL0.ext xG) hok hk
      cases c:(l.take i).any fun p=>fitB L p.toNat k with
      | true =>
       rw [c] at r10 hnx
       have hsp:=@Nat.succ_ne_zero;repeat' (first|simp (disch:=first|exact dq|fail) only [go_sem,↓reduceIte,hsp,r11,r10,y1,y2,y4,y5,y8,y9,z1,z2,z4,z5,d1,d2,q1,q2,hlg,hlt4]|refine WP_drw ?_|refine cnd_intro (fun hsp=>?_) fun hsp=>?_)
       exact ⟨agq,by omega,by rw [hnx];rfl⟩
      | false =>
       rw [c,Bool.false_or] at hnx
       rw [c] at r10
       have hsp:=@Nat.succ_ne_zero;repeat' (first|simp (disch:=first|exact dq|fail) only [go_sem,↓reduceIte,hsp,r11,r10,r9,y1,y2,y4,y5,y8,y9,z1,z2,z4,z5,d1,d2,q1,q2,hlg,hlt4,g0,ai,li,hft]|refine WP_drw ?_|refine cnd_intro (fun hsp=>?_) fun hsp=>?_)
       exact ⟨agq,by omega,by rw [hnx]⟩
     ·rintro fr4 K3 hA4 ⟨r11,rfl,r10⟩
      have y1:=hA4 1 rfl
      have y2:=hA4 2 rfl
      have y4:=hA4 4 rfl
      have y5:=hA4 5 rfl
      have y8:=hA4 8 rfl
      have y9:=hA4 9 rfl
      try simp (disch:=first|exact dq|fail) only [go_sem,↓reduceIte,z1,z2,z4,z5] at y1 y2 y4 y5 y8 y9
      have hlt4:((l.length:Int)<(l.length:Int))=False:=eq_false (by omega)
      rw [List.take_length] at r10
      have hfk:(l.any fun p=>fitB L p.toNat k)=f (k:Int):=by rw [ef];simp only [Int.toNat_natCast]
      rw [hfk] at r10
      have hup:=upto_filt (f:=f) (k:=k)
      cases c:f (k:Int) with
      | true =>
       rw [c] at r10 hup
       rw [if_pos rfl] at hup
       have hsp:=@Nat.succ_ne_zero;repeat' (first|simp (disch:=first|exact dq|fail) only [go_sem,↓reduceIte,hsp,r11,r10,r9,r8,y1,y2,y4,y5,y8,y9,z1,z2,z4,z5,d1,d2,q1,q2,hlg,hlt4]|refine WP_drw ?_|refine cnd_intro (fun hsp=>?_) fun hsp=>?_)
       exact ⟨agq,by omega,by rw [hup,List.length_append];simp;omega⟩
      | false =>
       rw [c] at r10 hup
       rw [if_neg (by simp),List.append_nil] at hup
       have hsp:=@Nat.succ_ne_zero;repeat' (first|simp (disch:=first|exact dq|fail) only [go_sem,↓reduceIte,hsp,r11,r10,r9,r8,y1,y2,y4,y5,y8,y9,z1,z2,z4,z5,d1,d2,q1,q2,hlg,hlt4]|refine WP_drw ?_|refine cnd_intro (fun hsp=>?_) fun hsp=>?_)
       exact ⟨agq,by omega,by rw [hup]⟩
    ·rintro fr3 K2 hA3 ⟨r9,rfl,r8⟩
     have z1:=hA3 1 rfl
     have z2:=hA3 2 rfl
     have z4:=hA3 4 rfl
     have z5:=hA3 5 rfl
     try simp (disch:=first|exact dq|fail) only [go_sem,↓reduceIte,d1,d2] at z1 z2 z4 z5
     have hlt3:((L.C.length:Int)<(L.C.length:Int))=False:=eq_false (by omega)
     have hfe:((upto L.C.length).filter f).length=fittN L l:=by rw [ef];rfl
     rw [hfe] at r8
     have hfn:fittN L l≤7:=Nat.le_trans (List.length_filter_le _ _) (by rw [upto_len];exact hn.2)
     by_cases c5:(l.length:Int)-fittN L l<1
     ·have t5:((l.length:Int)-(fittN L l:Int)<1)=True:=eq_true c5
      have hsp:=@Nat.succ_ne_zero;repeat' (first|simp (disch:=first|exact dq|fail) only [go_sem,↓reduceIte,hsp,r9,r8,z1,z2,z4,z5,d1,d2,q1,q2,g0,hlc,hlt3,t5]|refine WP_drw ?_|refine cnd_intro (fun hsp=>?_) fun hsp=>?_)
      have r:gpsE L l=(0,6):=by unfold gpsE;rw [if_neg u0,if_neg u1,if_neg u2,if_pos c5]
      rw [r]
      exact fII rfl rfl xG
     ·have t5:((l.length:Int)-(fittN L l:Int)<1)=False:=eq_false c5
      have hsp:=@Nat.succ_ne_zero;repeat' (first|simp (disch:=first|exact dq|fail) only [go_sem,↓reduceIte,hsp,r9,r8,z1,z2,z4,z5,d1,d2,q1,q2,g0,hlc,hlt3,t5]|refine WP_drw ?_|refine cnd_intro (fun hsp=>?_) fun hsp=>?_)
      have r:gpsE L l=((l.length:Int)-fittN L l,0):=by unfold gpsE;rw [if_neg u0,if_neg u1,if_neg u2,if_neg c5]
      rw [r]
      exact fII rfl rfl xG
end Go.AM
namespace Go.AM
open Go.Proofs.Tryz
attribute [-go_sem] put_ne put_same
attribute [local go_sem ↓] put_if
set_option maxRecDepth 100000 in
set_option maxHeartbeats 8000000 in
theorem run_LaceGaps {base:Nat} {h:Heap} {v0 v1:AVal} (hL0:LacN 1048576 h v0) (hO0:IntsN 1048576 h v1) :
  callL prog raw base (.fn 17 [] []) [v0,v1] h=some (.bool true,h):=by
 obtain ⟨L,hL,-,-⟩:=hL0
 obtain ⟨o,hO,-⟩:=hO0
 have hLL:=hL
 obtain ⟨cv,rv,rfl,hC,hR⟩:=hLL
 have o1:=hC.one
 have o2:=hR.one
 have o3:=hO.one
 obtain ⟨G0,eG0⟩:∃ G0,G0=h++[lacB L.T cv rv]:=⟨_,rfl⟩
 have x0:Ext h G0:=by rw [eG0];exact .app .refl
 have g0:G0[h.length]?=some (lacB L.T cv rv):=by rw [eG0];exact get_eq rfl
 have lG0:G0.length=h.length+1:=by rw [eG0];simp
 have hg:=fun base=>run_great (base:=base) (hL.ext x0)
 have hlo:=lenI (hO.ext x0)
 have haw:=fun base=>run_awake (base:=base) (h:=G0)
 unfold lacB at eG0
 have g0':=g0
 unfold lacB at g0'
 refine callL_run func17 rfl rfl ?_
 by_cases cg:12<L.C.length ∨ 16<L.R.length
 ·rw [decide_eq_true cg] at hg
  have hsp:=@Nat.succ_ne_zero;repeat' (first|simp (disch:=first|exact dq|fail) only [go_sem,↓reduceIte,hsp,← eG0,g0',hg,haw]|refine WP_drw ?_|refine cnd_intro (fun hsp=>?_) fun hsp=>?_)
  exact fB rfl x0
 ·rw [decide_eq_false cg] at hg
  by_cases cl:12<o.length
  ·have t1:((o.length:Int) > 12)=True:=eq_true (by omega)
   have hsp:=@Nat.succ_ne_zero;repeat' (first|simp (disch:=first|exact dq|fail) only [go_sem,↓reduceIte,hsp,← eG0,g0',hg,hlo,t1,haw]|refine WP_drw ?_|refine cnd_intro (fun hsp=>?_) fun hsp=>?_)
   exact fB rfl x0
  ·have t1:((o.length:Int) > 12)=False:=eq_false (by omega)
   obtain ⟨_,G1,e1,x1,cw,rw1,rfl,oC,oR⟩:=run_own (base:=h.length) (h:=G0) (by omega) (hL.ext x0) (by omega) (by omega)
   have l1:=x1.len
   obtain ⟨_,G2,e2,x2,aT,cv2,rw2,rfl,-,oT⟩:=run_theirs (base:=h.length) (h:=G1) (by omega) (hL.ext (x0.trans x1)) (by omega)
   have l2:=x2.len
   obtain ⟨mw,G3,e3,x3,oM⟩:=run_dupI (base:=h.length) (h:=G2) (by omega) (hO.ext ((x0.trans x1).trans x2)) (by omega)
   have l3:=x3.len
   have ocw:=oC.one
   have orw:=oR.one
   have omw:=oM.one
   have ot2:=oT.one
   have oc2:One cv2:=by
    obtain ⟨_,_,q,q2,_⟩:=aT
    simp only [AVal.agg.injEq,List.cons.injEq,and_true] at q
    rw [q.2.1];exact q2.one
   obtain ⟨G4,eG4⟩:∃ G4,G4=G3++[lacB L.T cw rw1]++[rcB L.T cv2 rw2]:=⟨_,rfl⟩
   have x4:Ext G3 G4:=by rw [eG4];exact .app (.app .refl)
   have l4:G4.length=G3.length+2:=by rw [eG4];simp
   have gO4:G4[G3.length]?=some (lacB L.T cw rw1):=by rw [eG4];exact get_app (get_eq rfl)
   have gT4:G4[G3.length+1]?=some (rcB L.T cv2 rw2):=by rw [eG4];exact get_eq (by simp)
   have x14:=(x2.trans x3).trans x4
   have xh4:Ext h G4:=(x0.trans x1).trans x14
   have hsC:Small L.C:=⟨by omega,hC.1.2⟩
   have hso:Small o:=⟨by omega,hO.1.2⟩
   have aO4:LacAt G4 (.agg [.int .i64 L.T,cw,rw1]) L:=⟨cw,rw1,rfl,(ownE_ints oC hsC).ext x14,(oR.rows (by omega)).ext x14⟩
   have aT4:LacAt G4 (.agg [.int .i64 L.T,cv2,rw2]) L:=aT.ext (x3.trans x4)
   have iM4:Ints G4 mw o:=(ownE_ints oM hso).ext x4
   have gc4:G4[h.length]?=some (lacB L.T cv rv):=(x1.trans x14).get g0
   have hck:=fun base=>run_rcheck (base:=base) aT4 (by omega) (by omega)
   have g01:=x1.get g0'
   unfold lacB rcB at eG4
   unfold rcB at gT4
   have gc4':=gc4
   unfold lacB at gc4'
   have hlc4:=lenI (hC.ext xh4)
   by_cases c:chkL L=0
   ·have hok:=chkL_iff.1 c
    have hn:=hok.n
    rw [c] at hck
    obtain ⟨lw,G5,e5,x5,aA⟩:=run_All (base:=h.length) (h:=G4) (by omega) aT4 hok
    have l5:=x5.len
    have olw:=aA.one
    have hfew:=fnd_few (L:=L) hn.2
    have hln:=aA.all.len (by omega)
    have gT5:=x5.get gT4
    have gO5:=x5.get gO4
    have aO5:=aO4.ext x5
    have c1:=fun base=>run_rgapes (base:=base) (aT4.ext x5) hok ((hO.ext xh4).ext x5) (by omega)
    obtain ⟨_,Z,f1,z1,pw,pl,rfl,oP,rP1,rP2⟩:=run_Gap (base:=h.length) (h:=G5) (by omega) aO5
    have opw:=oP.one
    have lz:=z1.len
    have c2:=fun base=>run_Gapes (base:=base) (aO5.ext z1) ((iM4.ext x5).ext z1)
    have xf:=xh4.trans (x5.trans z1)
    have gOZ:=z1.get gO5
    have gTZ:=z1.get gT5
    have gcZ:=(x5.trans z1).get gc4
    have q3:=fun base=>run_same (base:=base) (aO5.ext z1) (hL.ext xf) (by omega)
    have q4:=fun base=>run_eqI (base:=base) ((iM4.ext x5).ext z1) (hO.ext xf)
    rw [decide_eq_true rfl] at q4
    have q5:=fun base=>run_awake (base:=base) (h:=Z)
    unfold lacB at gO5 gOZ gcZ
    by_cases cf:fnd L=[]
    ·obtain ⟨-,-,-,-,w5⟩:=found_none c cf
     rw [w5] at f1
     obtain ⟨_,hgo⟩:=rP2 w5
     obtain ⟨g1,g2',g3,g4⟩:=gap_is c hgo
     rw [cf] at hln
     have z0:((([]:List (List Int)).length:Nat):Int)=0:=rfl
     have c3:=fun base=>run_rgapes (base:=base) ((aT4.ext x5).ext z1) hok (own_ints oP g4) (by omega)
     rw [g1] at c3
     obtain ⟨gn,egn⟩:∃ gn,gn=(pl.length:Int)-fittN L pl:=⟨_,rfl⟩
     rw [← egn] at c3 g2'
     have tg:(gn > 0)=True:=eq_true (by omega)
     have hsp:=@Nat.succ_ne_zero;repeat' (first|simp (disch:=first|exact dq|fail) only [go_sem,↓reduceIte,hsp,← eG0,g0',hg,hlo,t1,e1,g01,e2,e3,← eG4,gT4,hck,eq_self,e5,hln,z0,gT5,c1,gO5,f1,gOZ,c2,not_true,gcZ,q3,q4,q5,gTZ,c3,tg]|refine WP_drw ?_|refine cnd_intro (fun hsp=>?_) fun hsp=>?_)
     exact fB rfl xf
    ·obtain ⟨w5,-⟩:=found_some c cf
     rw [w5] at f1
     have hpl:=rP1 (by rw [w5];omega)
     rw [hpl] at oP
     have hlp:=own_len oP Fc.el22 (by simp)
     have t2:(((fnd L).length:Int)=0)=False:=eq_false (by have:=List.length_pos_iff.2 cf;omega)
     have z0:((([]:List Int).length:Nat):Int)=0:=rfl
     have hsp:=@Nat.succ_ne_zero;repeat' (first|simp (disch:=first|exact dq|fail) only [go_sem,↓reduceIte,hsp,← eG0,g0',hg,hlo,t1,e1,g01,e2,e3,← eG4,gT4,hck,eq_self,e5,hln,t2,z0,gT5,c1,gO5,f1,gOZ,c2,not_true,gcZ,q3,q4,q5,hlp]|refine WP_drw ?_|refine cnd_intro (fun hsp=>?_) fun hsp=>?_)
     exact fB rfl xf
   ·have tu:(chkL L=0)=False:=eq_false c
    obtain ⟨-,-,-,-,w5,-⟩:=found_bad c
    obtain ⟨_,Z,f1,z1,pw,pl,rfl,oP,rP1,rP2⟩:=run_Gap (base:=h.length) (h:=G4) (by omega) aO4
    have opw:=oP.one
    have lz:=z1.len
    have hpl:=rP1 (by rw [w5];exact c)
    rw [w5] at f1
    rw [hpl] at oP
    have hlp:=own_len oP Fc.el22 (by simp)
    have c2:=fun base=>run_Gapes (base:=base) (aO4.ext z1) (iM4.ext z1)
    have hgp:gpsE L o=(0,chkL L):=by unfold gpsE;rw [if_pos c]
    rw [hgp] at c2
    have xf:=xh4.trans z1
    have gO4':=gO4
    have gOZ:=z1.get gO4
    have gcZ:=z1.get gc4
    have q3:=fun base=>run_same (base:=base) (aO4.ext z1) (hL.ext xf) (by omega)
    have q4:=fun base=>run_eqI (base:=base) (iM4.ext z1) (hO.ext xf)
    rw [decide_eq_true rfl] at q4
    have q5:=fun base=>run_awake (base:=base) (h:=Z)
    have z0:((([]:List Int).length:Nat):Int)=0:=rfl
    unfold lacB at gO4' gOZ gcZ
    have hsp:=@Nat.succ_ne_zero;repeat' (first|simp (disch:=first|exact dq|fail) only [go_sem,↓reduceIte,hsp,← eG0,g0',hg,hlo,t1,e1,g01,e2,e3,← eG4,gT4,hck,eq_self,tu,gO4',f1,gOZ,c2,not_true,gcZ,q3,q4,q5,hlp,z0]|refine WP_drw ?_|refine cnd_intro (fun hsp=>?_) fun hsp=>?_)
    exact fB rfl xf
end Go.AM
namespace Go.AM
open Go.Proofs.Tryz
attribute [-go_sem] put_ne put_same
attribute [local go_sem ↓] put_if
set_option maxRecDepth 100000 in
set_option maxHeartbeats 4000000 in
theorem run_rturned {base:Nat} {h:Heap} {v ov gv:AVal} {L:Lac} {o ring:List Int} (hb:base≤h.length) (hL:LacAt h v L) (hok:LacOk L) (hO:Ints h ov o) (ho:Ord L.C.length o) (hG:Ints h gv ring) (hl:ring.length≤1000) :
  Ret prog raw base (.fn 74 [] []) [v,ov,gv] h (fun w H=>Ext h H∧∃ x,w=.tuple [x,.int .i64 (trdE L o ring).2]∧Own encI 3 h.length H x (trdE L o ring).1):=by
 have hL0:=hL
 have hc:=chkL_iff.2 hok
 obtain ⟨cv,rv,rfl,hC,hR⟩:=hL
 have o1:=hC.one
 have o2:=hR.one
 have o3:=hO.one
 have o4:=hG.one
 have hn:=hok.n
 obtain ⟨n,en⟩:∃ n,n=L.C.length:=⟨_,rfl⟩
 rw [← en] at ho hn
 obtain ⟨m,em⟩:∃ m,m=ring.length:=⟨_,rfl⟩
 rw [← em] at hl
 have hol:=ho.1
 have u0:¬ (lcdE L o ≠ 0):=fun q=>q (by unfold lcdE;rw [if_pos hc,← en];exact ordL_iff.2 ho)
 obtain ⟨G,eG⟩:∃ G,G=h++[rcB L.T cv rv]:=⟨_,rfl⟩
 have xG:Ext h G:=by rw [eG];exact .app .refl
 have lG:G.length=h.length+1:=by rw [eG];simp
 have g0:G[h.length]?=some (rcB L.T cv rv):=by rw [eG];exact get_eq rfl
 have iG:=hG.ext xG
 have iO:=hO.ext xG
 have hlg:=lenI iG
 have hlo:=lenI iO
 rw [← em] at hlg
 rw [hol] at hlo
 have htw:=fun base=>run_rtwice (base:=base) iG
 unfold rcB at eG g0
 refine ret_raw func74 rfl (by kernel_rfl) ?_
 by_cases c2:ring.length<2
 ·have t2:((m:Int)<2)=True:=eq_true (by omega)
  have r:trdE L o ring=([],2):=by unfold trdE;rw [if_neg u0,if_pos c2]
  rw [r]
  have hsp:=@Nat.succ_ne_zero;repeat' (first|simp (disch:=first|exact dq|fail) only [go_sem,↓reduceIte,hsp,← eG,hlg,t2]|refine WP_drw ?_|refine cnd_intro (fun hsp=>?_) fun hsp=>?_)
  exact ⟨xG,_,rfl,Own.nil⟩
 ·have t2:((m:Int)<2)=False:=eq_false (by omega)
  have hsp:=@Nat.succ_ne_zero;repeat' (first|simp (disch:=first|exact dq|fail) only [go_sem,↓reduceIte,hsp,← eG,hlg,t2]|refine WP_drw ?_|refine cnd_intro (fun hsp=>?_) fun hsp=>?_)
  refine WP_count [(6,27)] 0 m (Nat.zero_le _) (fun _ i fr H=>fr 8=.int .i64 (i:Int)∧H=G∧(ring.take i).all (fun x=>decide (0≤x∧x≤(L.C.length:Int)-1))=true) ?_ ?_ ?_
  ·exact ⟨by (simp (disch:=first|exact dq|fail) only [go_sem,↓reduceIte,Int.natCast_zero];first|done|rfl),rfl,by simp⟩
  ·rintro i fr H hi0 hi hA ⟨r8,rfl,ha⟩
   have q1:=hA 1 rfl
   have q2:=hA 2 rfl
   have q3:=hA 3 rfl
   try simp (disch:=first|exact dq|fail) only [go_sem,↓reduceIte] at q1 q2 q3
   have hlt:((i:Int)<(m:Int))=True:=eq_true (by omega)
   have ai:=adrI (i:=(i:Int)) (by omega) iG (by omega)
   rw [Int.toNat_natCast] at ai
   have li:=loadI iG (i:=i) (by omega)
   have hx:ring[i]?=some (ring.getD i 0):=getD_some (by omega)
   have hf:=fun base=>run_off (base:=base) (h:=H) (n:=ring.getD i 0) (lo:=0) (hi:=(n:Int)-1)
   by_cases c:0≤ring.getD i 0∧ring.getD i 0≤(n:Int)-1
   ·rw [decide_eq_true c] at hf
    have hsp:=@Nat.succ_ne_zero;repeat' (first|simp (disch:=first|exact dq|fail) only [go_sem,↓reduceIte,hsp,r8,q1,q2,q3,hlg,hlt,ai,li,hlo,hf,Bool.not_true]|refine WP_drw ?_|refine cnd_intro (fun hsp=>?_) fun hsp=>?_)
    exact ⟨agq,by omega,all_take hx ha (decide_eq_true (by omega))⟩
   ·rw [decide_eq_false c] at hf
    have hsp:=@Nat.succ_ne_zero;repeat' (first|simp (disch:=first|exact dq|fail) only [go_sem,↓reduceIte,hsp,r8,q1,q2,q3,hlg,hlt,ai,li,hlo,hf,Bool.not_false]|refine WP_drw ?_|refine cnd_intro (fun hsp=>?_) fun hsp=>?_)
    have r:trdE L o ring=([],1):=by unfold trdE;rw [if_neg u0,if_neg c2,if_pos (by rw [all_no hx (decide_eq_false (by omega))];simp)]
    rw [r]
    exact ⟨xG,_,rfl,Own.nil⟩
  ·rintro fr H hA ⟨r8,rfl,ha⟩
   have q1:=hA 1 rfl
   have q2:=hA 2 rfl
   have q3:=hA 3 rfl
   try simp (disch:=first|exact dq|fail) only [go_sem,↓reduceIte] at q1 q2 q3
   have hlt:((m:Int)<(m:Int))=False:=eq_false (by omega)
   rw [em,List.take_length] at ha
   have u1:¬ (¬ (ring.all fun x=>decide (0≤x∧x≤(L.C.length:Int)-1))=true):=by rw [ha];simp
   have hin:∀ x ∈ ring,0≤x∧x<(n:Int):=fun x hx=>by have:=of_decide_eq_true (List.all_eq_true.1 ha x hx);omega
   cases c5:twB ring with
   | true =>
    rw [c5] at htw
    have hsp:=@Nat.succ_ne_zero;repeat' (first|simp (disch:=first|exact dq|fail) only [go_sem,↓reduceIte,hsp,r8,q1,q2,q3,hlg,hlt,htw]|refine WP_drw ?_|refine cnd_intro (fun hsp=>?_) fun hsp=>?_)
    have r:trdE L o ring=([],5):=by unfold trdE;rw [if_neg u0,if_neg c2,if_neg u1,if_pos c5]
    rw [r]
    exact ⟨xG,_,rfl,Own.nil⟩
   | false =>
    rw [c5] at htw
    have hnd:ring.Nodup:=Classical.not_not.1 (of_decide_eq_false c5)
    have hne:o ≠ []:=fun q=>by rw [q] at hol;simp at hol;omega
    have hap:=app_empE (base:=base) (h:=H) iO.rows hne encI_sc (by omega) Fc.el22
    rw [hol,rowE,flat_encI] at hap
    obtain ⟨K0,eK0⟩:∃ K0,K0=H++[srB (trnN o ring 0) 3 0]:=⟨_,rfl⟩
    have hap':appendA prog base H 22 .emp ov=some (.slice (some ⟨H.length,0,0⟩) n n,K0):=by rw [hap,eK0];rfl
    have lT:∀ i,(trnN o ring i).length=n:=fun i=>by rw [trnN_len,hol]
    have hlr:∀ {K},Ext H K→lenOpA prog K 22 gv=some (.int .i64 (m:Int)):=fun {K} e=>by rw [em];exact lenI (iG.ext e)
    have s1:((m:Int)-1)=((m-1:Nat):Int):=by omega
    have hsp:=@Nat.succ_ne_zero;repeat' (first|simp (disch:=first|exact dq|fail) only [go_sem,↓reduceIte,hsp,r8,q1,q2,q3,hlg,hlt,htw,bs_emp Fc.el22,hap']|refine WP_drw ?_|refine cnd_intro (fun hsp=>?_) fun hsp=>?_)
    refine WP_count [(10,53)] 0 (m-1) (Nat.zero_le _) (fun _ i fr K=>fr 10=.int .i64 (i:Int)∧K=H++[srB (trnN o ring i) 3 0]) ?_ ?_ ?_
    ·exact ⟨by (simp (disch:=first|exact dq|fail) only [go_sem,↓reduceIte,Int.natCast_zero];first|done|rfl),eK0⟩
    ·rintro i fr2 K hi0 hi hA2 ⟨r10,eK⟩
     have d1:=hA2 1 rfl
     have d2:=hA2 2 rfl
     have d3:=hA2 3 rfl
     have d6:=hA2 6 rfl
     have d7:=hA2 7 rfl
     have d9:=hA2 9 rfl
     try simp (disch:=first|exact dq|fail) only [go_sem,↓reduceIte,q1,q2,q3] at d1 d2 d3 d6 d7 d9
     have hlt2:((i:Int)<((m-1:Nat):Int))=True:=eq_true (by omega)
     have xK:Ext H K:=by rw [eK];exact .app .refl
     have gK:K[H.length]?=some (srB (trnN o ring i) 3 0):=by rw [eK];exact get_eq rfl
     have jR:=iG.ext xK
     have lrK:=hlr xK
     have ai:=adrI (i:=(i:Int)) (by omega) jR (by omega)
     have s2:((i:Int)+1)=((i+1:Nat):Int):=by omega
     have aj:=adrI (i:=((i+1:Nat):Int)) (by omega) jR (by omega)
     rw [Int.toNat_natCast] at ai aj
     have li:=loadI jR (i:=i) (by omega)
     have lj:=loadI jR (i:=i+1) (by omega)
     have hp:=hin _ (getD_mem (l:=ring) (i:=i) (by omega))
     have hq:=hin _ (getD_mem (l:=ring) (i:=i+1) (by omega))
     obtain ⟨p,ep⟩:=Int.eq_ofNat_of_zero_le hp.1
     obtain ⟨r,er⟩:=Int.eq_ofNat_of_zero_le hq.1
     rw [ep] at li hp
     rw [er] at lj hq
     have jO:=iO.ext xK
     have ap:=adrI (i:=(p:Int)) (by omega) jO (by omega)
     rw [Int.toNat_natCast] at ap
     have lp:=loadI jO (i:=p) (by omega)
     have ar:indexAddrA prog 22 (.slice (some ⟨H.length,0,0⟩) n n) (.int .i64 (r:Int))=some (.ptr (some ⟨H.length,0,r⟩)):=by
      rw [adr_sl Fc.el22 Fc.ar22 (by omega) (by omega),Int.toNat_natCast,Nat.mul_one,Nat.zero_add]
     have hlTi:=lT i
     have hst:∀ {F:ABlk→Heap},stQ base H.length (some (srB (trnN o ring i) 3 0)) 0 r [.int .i64 (o.getD p 0)] F=some (F (srB (trnN o ring (i+1)) 3 0)):=fun {F}=>by
      rw [stQ_ints (by omega),trnN,trnS,← em,Nat.mod_eq_of_lt (show i+1<m by omega),er,ep,Int.toNat_natCast,Int.toNat_natCast]
     have hset:K.set H.length (srB (trnN o ring (i+1)) 3 0)=H++[srB (trnN o ring (i+1)) 3 0]:=by
      rw [eK,List.set_append_right _ _ (Nat.le_refl _),Nat.sub_self];rfl
     have hsp:=@Nat.succ_ne_zero;repeat' (first|simp (disch:=first|exact dq|fail) only [go_sem,↓reduceIte,hsp,r10,d1,d2,d3,d6,d7,d9,q1,q2,q3,lrK,s1,hlt2,s2,ai,li,aj,lj,ap,lp,ar,gK,hst]|refine WP_drw ?_|refine cnd_intro (fun hsp=>?_) fun hsp=>?_)
     exact ⟨agq,hset⟩
    ·rintro fr2 K hA2 ⟨r10,eK⟩
     have d1:=hA2 1 rfl
     have d2:=hA2 2 rfl
     have d3:=hA2 3 rfl
     have d6:=hA2 6 rfl
     have d7:=hA2 7 rfl
     have d9:=hA2 9 rfl
     try simp (disch:=first|exact dq|fail) only [go_sem,↓reduceIte,q1,q2,q3] at d1 d2 d3 d6 d7 d9
     have hlt2:(((m-1:Nat):Int)<((m-1:Nat):Int))=False:=eq_false (by omega)
     have xK:Ext H K:=by rw [eK];exact .app .refl
     have gK:K[H.length]?=some (srB (trnN o ring (m-1)) 3 0):=by rw [eK];exact get_eq rfl
     have jR:=iG.ext xK
     have lrK:=hlr xK
     have a0:=adrI (i:=((0:Nat):Int)) (by omega) jR (by omega)
     have am:=adrI (i:=((m-1:Nat):Int)) (by omega) jR (by omega)
     rw [Int.toNat_natCast] at a0 am
     rw [Int.natCast_zero] at a0
     have l0:=loadI jR (i:=0) (by omega)
     have lm:=loadI jR (i:=m-1) (by omega)
     have hp:=hin _ (getD_mem (l:=ring) (i:=m-1) (by omega))
     have hq:=hin _ (getD_mem (l:=ring) (i:=0) (by omega))
     obtain ⟨p,ep⟩:=Int.eq_ofNat_of_zero_le hp.1
     obtain ⟨r,er⟩:=Int.eq_ofNat_of_zero_le hq.1
     rw [ep] at lm hp
     rw [er] at l0 hq
     have jO:=iO.ext xK
     have ap:=adrI (i:=(p:Int)) (by omega) jO (by omega)
     rw [Int.toNat_natCast] at ap
     have lp:=loadI jO (i:=p) (by omega)
     have ar:indexAddrA prog 22 (.slice (some ⟨H.length,0,0⟩) n n) (.int .i64 (r:Int))=some (.ptr (some ⟨H.length,0,r⟩)):=by
      rw [adr_sl Fc.el22 Fc.ar22 (by omega) (by omega),Int.toNat_natCast,Nat.mul_one,Nat.zero_add]
     have hlTi:=lT (m-1)
     have hst:∀ {F:ABlk→Heap},stQ base H.length (some (srB (trnN o ring (m-1)) 3 0)) 0 r [.int .i64 (o.getD p 0)] F=some (F (srB (trnL o ring) 3 0)):=fun {F}=>by
      have hm1:m-1+1=m:=by omega
      have e9:trnL o ring=trnN o ring (m-1+1):=by rw [trnL,← em,hm1]
      rw [stQ_ints (by omega),e9,trnN,trnS,← em,hm1,Nat.mod_self,er,ep,Int.toNat_natCast,Int.toNat_natCast]
     obtain ⟨K2,eK2⟩:∃ K2,K2=K.set H.length (srB (trnL o ring) 3 0):=⟨_,rfl⟩
     have eK2':K2=H++[srB (trnL o ring) 3 0]:=by
      rw [eK2,eK,List.set_append_right _ _ (Nat.le_refl _),Nat.sub_self];rfl
     have xK2:Ext H K2:=by rw [eK2'];exact .app .refl
     have gT:K2[h.length]?=_:=xK2.get g0
     have hT:=trnL_any ho hin hnd
     have oT:Own encI 3 H.length K2 (.slice (some ⟨H.length,0,0⟩) n n) (trnL o ring):=by
      refine .inr ⟨H.length,0,by rw [hT.1],?_,Nat.le_refl _,by rw [hT.1];omega⟩
      rw [eK2',rowE,flat_encI];exact get_eq rfl
     have iT:=own_ints oT (ord_small hT (by omega))
     have f1:=fun base=>run_rexplains (base:=base) (hL0.ext (xG.trans xK2)) hok (iO.ext xK2) (by rw [← en];exact ho)
     have f2:=fun base=>run_rexplains (base:=base) (hL0.ext (xG.trans xK2)) hok iT (by rw [← en];exact hT)
     rw [hT.1] at f2
     rw [hol] at f1
     have u2:¬ (twB ring=true):=by rw [c5];simp
     have r9:trdE L o ring=if (xplD L o o.length && xplD L (trnL o ring) o.length)=true then (trnL o ring,0) else ([],8):=by unfold trdE;rw [if_neg u0,if_neg c2,if_neg u1,if_neg u2]
     rw [r9,hol]
     have xf:=xG.trans xK2
     cases w1:xplD L o n with
     | false =>
      rw [w1] at f1
      have hsp:=@Nat.succ_ne_zero;repeat' (first|simp (disch:=first|exact dq|fail) only [go_sem,↓reduceIte,hsp,r10,d1,d2,d3,d6,d7,d9,q1,q2,q3,lrK,s1,hlt2,a0,l0,am,lm,ap,lp,ar,gK,hst,← eK2,gT,f1]|refine WP_drw ?_|refine cnd_intro (fun hsp=>?_) fun hsp=>?_)
      first|exact ⟨xf,_,rfl,Own.nil⟩|exact ⟨_,rfl,Own.nil⟩
     | true =>
      rw [w1] at f1
      cases w2:xplD L (trnL o ring) n with
      | false =>
       rw [w2] at f2
       have hsp:=@Nat.succ_ne_zero;repeat' (first|simp (disch:=first|exact dq|fail) only [go_sem,↓reduceIte,hsp,r10,d1,d2,d3,d6,d7,d9,q1,q2,q3,lrK,s1,hlt2,a0,l0,am,lm,ap,lp,ar,gK,hst,← eK2,gT,f1,f2]|refine WP_drw ?_|refine cnd_intro (fun hsp=>?_) fun hsp=>?_)
       first|exact ⟨xf,_,rfl,Own.nil⟩|exact ⟨_,rfl,Own.nil⟩
      | true =>
       rw [w2] at f2
       have hsp:=@Nat.succ_ne_zero;repeat' (first|simp (disch:=first|exact dq|fail) only [go_sem,↓reduceIte,hsp,r10,d1,d2,d3,d6,d7,d9,q1,q2,q3,lrK,s1,hlt2,a0,l0,am,lm,ap,lp,ar,gK,hst,← eK2,gT,f1,f2]|refine WP_drw ?_|refine cnd_intro (fun hsp=>?_) fun hsp=>?_)
       first|exact ⟨xf,_,rfl,oT.low (by omega)⟩|exact ⟨_,rfl,oT.low (by omega)⟩
end Go.AM
