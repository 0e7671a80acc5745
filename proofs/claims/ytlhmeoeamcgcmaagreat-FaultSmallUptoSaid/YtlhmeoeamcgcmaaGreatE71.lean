/-
  Contracts: as few sights as can be that clash, as the reference says it.
-/
import Derived.Test.YtlhmeoeamcgcmaaGreatE70
set_option linter.unusedSimpArgs false
set_option linter.unusedVariables false
namespace Go.AM
open Go.Proofs.Tryz
attribute [-go_sem] put_ne put_same
attribute [local go_sem ↓] put_if
def unxR (ls:List (List Int)) (x:List Int):Bool:=!ls.any fun l=>x.all fun k=>!decide (k ∈ l)
def clsB (ls:List (List Int)) (n j:Nat):Option (List Int):=(setsR n j).foldl (pickO btL (unxR ls)) none
theorem clsB_succ {ls:List (List Int)} {n j:Nat}:clsB ls n (j+1)=pickO btL (unxR ls) (clsB ls n j) (memS n (j+1)):=by
 unfold clsB
 rw [setsR,List.foldl_append]
 rfl
theorem clsB_len {ls:List (List Int)} {n:Nat}:∀ j,((clsB ls n j).getD []).length≤n
 | 0=>by simp [clsB,setsR]
 | j+1=>by
  rw [clsB_succ]
  unfold pickO
  split
  ·exact memS_len
  ·exact clsB_len j
theorem clsB_mem {ls:List (List Int)} {n:Nat}:∀ j,∀ x ∈ (clsB ls n j).getD [],0≤x∧x<(n:Int)
 | 0=>by simp [clsB,setsR]
 | j+1=>by
  rw [clsB_succ]
  unfold pickO
  split
  ·exact fun x hx=>(memS_mem.1 hx).1
  ·exact clsB_mem j
theorem stE71 {base:Nat} {l:List Oper} {s:St} {Q:AExit→St→Prop}:WP prog raw base (.region 12 l.toArray false) s Q=WPS prog raw base (.region 12 l.toArray false) s Q:=WP_stop
attribute [local go_sem ↓ 3000] stE71
set_option maxHeartbeats 8000000 in
theorem run_clashR {base:Nat} {h:Heap} {L:Lom} {pv sv av:AVal} {ts:List (List Brk)} (hb:base≤h.length) (hP:Parts h pv L.ps) (hS:Rows encS h sv L.ss) (hc:chkM L=0) (hr:∀ p ∈ L.ps,p.rib.length≤1000) (hA0:AllAt 0 h av ts) (hl:ts.length≤3000) (ht:∀ t ∈ ts,truM L t=0∧t.length≤6) :
  Ret prog raw base (.fn 18 [] []) [lomV L.R L.T pv sv,av] h (fun v H=>Ext h H∧∃ x,v=.tuple [x,.bool (clsB (ts.map fun t=>(lftM L t).1) L.ss.length (2 ^ L.ss.length-1)).isSome]∧Own encI 3 0 H x ((clsB (ts.map fun t=>(lftM L t).1) L.ss.length (2 ^ L.ss.length-1)).getD [])):=by
 have ho:=hP.one
 have ho2:=hS.one
 have ho3:=hA0.one
 obtain ⟨k1,k2,k3,k4,k5,k6⟩:=chkM_ok hc
 obtain ⟨G,eG⟩:∃ G,G=h++[rlB L.R L.T pv sv]:=⟨_,rfl⟩
 have xG:Ext h G:=by rw [eG];exact .app .refl
 have hG:=xG.len
 have g1:G[h.length]?=some (rlB L.R L.T pv sv):=by rw [eG];exact get_eq rfl
 unfold rlB at eG g1
 refine ret_raw func18 rfl (by kernel_rfl) ?_
 have hsp:=@Nat.succ_ne_zero;repeat' (first|simp (disch:=first|exact dq|fail) only [go_sem,↓reduceIte,hsp,← eG]|refine WP_drw ?_|refine cnd_intro (fun hsp=>?_) fun hsp=>?_)
 refine WP_count [(6,29)] 0 ts.length (Nat.zero_le _) (fun _ i fr h'=>fr 7=.int .i64 (i:Int)∧Ext G h'∧∃ v,fr 6=v∧AllI G.length h' v ((ts.take i).map fun t=>(lftM L t).1)) ?_ ?_ ?_
 ·exact ⟨by (simp (disch:=first|exact dq|fail) only [go_sem,↓reduceIte,Int.natCast_zero];first|done|rfl),.refl,.slice none 0 0,by simp (disch:=first|exact dq|fail) only [go_sem,↓reduceIte],[],Own.nil,rfl,by simp⟩
 ·rintro i fr K hi0 hi hA ⟨p7,xK,v,p6,hI⟩
  have p1:=hA 1 rfl
  have p2:=hA 2 rfl
  have p4:=hA 4 rfl
  have p5:=hA 5 rfl
  try simp (disch:=first|exact dq|fail) only [go_sem,↓reduceIte] at p1 p2 p4 p5
  have hlt:((i:Int)<(ts.length:Int))=True:=eq_true (by omega)
  have xh:=xG.trans xK
  have hKl:=xK.len
  have hhK:=xh.len
  have g1K:=xK.get g1
  have hnK:=(hA0.ext xh).len (show ts.length<2 ^ 60 by omega)
  have hv1:=hI.one
  obtain ⟨y,ey⟩:∃ y,y=ts[i]:=⟨_,rfl⟩
  have hy:ts[i]?=some y:=by rw [ey];exact List.getElem?_eq_getElem hi
  obtain ⟨a,u,adw,ld,oU⟩:=(hA0.ext xh).at (show ts.length<2 ^ 60 by omega) hy
  have hu:=oU.one
  have ld0:=ld _ .refl
  obtain ⟨hy1,hy2⟩:=ht y (List.mem_of_getElem? hy)
  obtain ⟨w1,H1,e1,y1,oL⟩:=run_leftR (base:=base) (by omega) (hP.ext xh) (hS.ext xh) hc hr (oU.rows (by omega)) (by omega) hy1
  have hw1:=oL.one
  obtain ⟨z,A',bz,xA,w',h',eW,oN,hl5,hE,hw1',_⟩:=(hI.ext y1).snoc (base:=base) (.inl (oL.low (Nat.zero_le _))) (by omega) (by have:=y1.len;omega) (by rw [List.length_map,List.length_take];omega)
  have hsp:=@Nat.succ_ne_zero;repeat' (first|simp (disch:=first|exact dq|fail) only [go_sem,↓reduceIte,hsp,p1,p2,p4,p5,p7,p6,hlt,g1K,hnK,adw,ld0,e1,bz,eW]|refine WP_drw ?_|refine cnd_intro (fun hsp=>?_) fun hsp=>?_)
  refine ⟨agq,by omega,hE _ (Nat.le_refl _) (xK.trans y1),w',rfl,?_⟩
  rw [List.take_add_one,hy,List.map_append]
  exact oN
 ·rintro fr1 H1 hA ⟨p7,xH1,v,p6,hI⟩
  have p1:=hA 1 rfl
  have p2:=hA 2 rfl
  have p4:=hA 4 rfl
  have p5:=hA 5 rfl
  try simp (disch:=first|exact dq|fail) only [go_sem,↓reduceIte] at p1 p2 p4 p5
  have hlt:((ts.length:Int)<(ts.length:Int))=False:=eq_false (by omega)
  have hn1:=(hA0.ext (xG.trans xH1)).len (show ts.length<2 ^ 60 by omega)
  have hv1:=hI.one
  rw [List.take_length] at hI
  obtain ⟨ls,els⟩:∃ ls,ls=ts.map fun t=>(lftM L t).1:=⟨_,rfl⟩
  rw [← els] at hI ⊢
  have hll:ls.length≤3000:=by rw [els,List.length_map];exact hl
  have hlm:∀ l ∈ ls,l.length≤10∧∀ x ∈ l,0≤x∧x<10:=fun l h=>by
   rw [els] at h
   obtain ⟨t,ht1,rfl⟩:=List.mem_map.1 h
   have q:=lftM_len (L:=L) (t:=t)
   have ok:=(ht t ht1).1
   refine ⟨by omega,fun x hx=>?_⟩
   rw [← lefR_eq hc ok] at hx
   have:=upto_mem.1 (List.mem_filter.1 hx).1
   omega
  have hpw:0<2 ^ L.ss.length:=Nat.pow_pos (by decide)
  have hpw2:2 ^ L.ss.length≤2 ^ 10:=Nat.pow_le_pow_right (by decide) (by omega)
  have hsp:=@Nat.succ_ne_zero;repeat' (first|simp (disch:=first|exact dq|fail) only [go_sem,↓reduceIte,hsp,p1,p2,p4,p5,p7,p6,hlt,hn1]|refine WP_drw ?_|refine cnd_intro (fun hsp=>?_) fun hsp=>?_)
  refine WP_count [(8,90)] 0 (2 ^ L.ss.length-1) (Nat.zero_le _) (fun _ j fr h'=>fr 10=.int .i64 ((j+1:Nat):Int)∧Ext H1 h'∧fr 9=.bool (clsB ls L.ss.length j).isSome∧∃ v,fr 8=v∧Own encI 3 0 h' v ((clsB ls L.ss.length j).getD [])) ?_ ?_ ?_
  ·exact ⟨by (simp (disch:=first|exact dq|fail) only [go_sem,↓reduceIte,Int.natCast_zero];first|done|rfl),.refl,by simp (disch:=first|exact dq|fail) only [go_sem,↓reduceIte];rfl,.slice none 0 0,by simp (disch:=first|exact dq|fail) only [go_sem,↓reduceIte],Own.nil⟩
  ·rintro j fr2 K hj0 hj hB ⟨q10,xK,q9,bv,q8,hO⟩
   have q2:=hB 2 rfl
   have q4:=hB 4 rfl
   have q5:=hB 5 rfl
   have q6:=hB 6 rfl
   try simp (disch:=first|exact dq|fail) only [go_sem,↓reduceIte,p2,p4,p5,p6] at q2 q4 q5 q6
   have hlt2:(((j+1:Nat):Int)<((2 ^ L.ss.length:Nat):Int))=True:=eq_true (by omega)
   have xhK:=(xG.trans xH1).trans xK
   have hhK:=xhK.len
   have g1K:=(xH1.trans xK).get g1
   have hss:=fun base=>run_sets (base:=base) ho (hS.ext xhK) (by omega)
   obtain ⟨xv,H2,e2,y2,oX⟩:=run_members (base:=base) (n:=L.ss.length) (s:=j+1) (h:=K) (by omega) (by omega) (by omega)
   have hx1:=oX.one
   have hb1:=hO.one
   obtain ⟨x,ex⟩:∃ x,x=memS L.ss.length (j+1):=⟨_,rfl⟩
   rw [← ex] at oX
   have hxl:x.length≤L.ss.length:=by rw [ex];exact memS_len
   have hxm:∀ k ∈ x,0≤k∧k<(L.ss.length:Int):=fun k hk=>by rw [ex] at hk;exact (memS_mem.1 hk).1
   have hbl:=clsB_len (ls:=ls) (n:=L.ss.length) j
   have hbm:=clsB_mem (ls:=ls) (n:=L.ss.length) j
   have iX:Ints H2 xv x:=own_ints oX ⟨by omega,fun k hk=>by have:=hxm k hk;omega⟩
   have iB:Ints H2 bv ((clsB ls L.ss.length j).getD []):=own_ints (hO.ext y2) ⟨by omega,fun k hk=>by have:=hbm k hk;omega⟩
   have es:clsB ls L.ss.length (j+1)=pickO btL (unxR ls) (clsB ls L.ss.length j) x:=by rw [clsB_succ,ex]
   rw [es]
   generalize clsB ls L.ss.length j=bo at q9 hO hbl hbm iB es ⊢
   have fst:x.length=(bo.getD []).length→∀ base,callL prog raw base (.fn 71 [] []) [xv,bv] H2=some (.bool (lexB x (bo.getD [])),H2):=fun hl base=>run_first (base:=base) iX iB (by omega) (by omega)
   have hsp:=@Nat.succ_ne_zero;repeat' (first|simp (disch:=first|exact dq|fail) only [go_sem,↓reduceIte,hsp,q2,q4,q5,q6,q10,q9,q8,hlt2,g1K,hss,e2]|refine WP_drw ?_|refine cnd_intro (fun hsp=>?_) fun hsp=>?_)
   refine WPS_restF fun Z eZ=>?_
   skip
   have kZ2:=congrFun eZ 2
   have kZ4:=congrFun eZ 4
   have kZ5:=congrFun eZ 5
   have kZ6:=congrFun eZ 6
   have kZ8:=congrFun eZ 8
   have kZ9:=congrFun eZ 9
   have kZ10:=congrFun eZ 10
   have kZ11:=congrFun eZ 11
   try simp (disch:=first|exact dq|fail) only [go_sem,↓reduceIte,q2,q4,q5,q6,q8,q9,q10] at kZ2 kZ4 kZ5 kZ6 kZ8 kZ9 kZ10 kZ11
   have aZ:Agree [(8,90)] Z fr2:=by rw [eZ];exact agq
   clear eZ
   refine WP_meet (fun fr h'=>Agree [(38,58)] fr Z∧h'=H2∧fr 58=.bool (!(bo.all fun y=>btL x y))) ?_ ?_
   ·rw [WP_region]
    cases bo with
    | none =>
     have hsp:=@Nat.succ_ne_zero;repeat' (first|simp (disch:=first|exact dq|fail) only [go_sem,↓reduceIte,hsp,kZ2,kZ4,kZ5,kZ6,kZ8,kZ9,kZ10,kZ11,Option.isSome_none]|refine WP_drw ?_|refine cnd_intro (fun hsp=>?_) fun hsp=>?_)
     exact ⟨agq,rfl⟩
    | some y =>
     simp only [Option.getD_some,Option.all_some] at fst iB ⊢
     by_cases c1:x.length > y.length
     ·have t1:((x.length:Int) > (y.length:Int))=True:=eq_true (by omega)
      have r:btL x y=false:=by unfold btL;rw [decide_eq_false (by omega),decide_eq_false (by omega)];rfl
      rw [r]
      have hsp:=@Nat.succ_ne_zero;repeat' (first|simp (disch:=first|exact dq|fail) only [go_sem,↓reduceIte,hsp,kZ2,kZ4,kZ5,kZ6,kZ8,kZ9,kZ10,kZ11,t1,Option.isSome_some]|refine WP_drw ?_|refine cnd_intro (fun hsp=>?_) fun hsp=>?_)
      all_goals exact agq
     ·have t1:((x.length:Int) > (y.length:Int))=False:=eq_false (by omega)
      by_cases c2:x.length=y.length
      ·have t2:((x.length:Int)=(y.length:Int))=True:=eq_true (by omega)
       have r:btL x y=lexB x y:=by unfold btL;rw [decide_eq_false (by omega),decide_eq_true c2];rfl
       have e3:=fst c2
       rw [r]
       have hsp:=@Nat.succ_ne_zero;repeat' (first|simp (disch:=first|exact dq|fail) only [go_sem,↓reduceIte,hsp,kZ2,kZ4,kZ5,kZ6,kZ8,kZ9,kZ10,kZ11,t1,t2,Option.isSome_some,e3]|refine WP_drw ?_|refine cnd_intro (fun hsp=>?_) fun hsp=>?_)
       all_goals exact agq
      ·have t2:((x.length:Int)=(y.length:Int))=False:=eq_false (by omega)
       have r:btL x y=true:=by unfold btL;rw [decide_eq_true (by omega)];rfl
       rw [r]
       have hsp:=@Nat.succ_ne_zero;repeat' (first|simp (disch:=first|exact dq|fail) only [go_sem,↓reduceIte,hsp,kZ2,kZ4,kZ5,kZ6,kZ8,kZ9,kZ10,kZ11,t1,t2,Option.isSome_some]|refine WP_drw ?_|refine cnd_intro (fun hsp=>?_) fun hsp=>?_)
       all_goals exact agq
   ·rintro fr3 H3 ⟨hC,eH3,r58⟩
    subst eH3
    have z2:=hC 2 rfl
    have z4:=hC 4 rfl
    have z5:=hC 5 rfl
    have z6:=hC 6 rfl
    have z8:=hC 8 rfl
    have z9:=hC 9 rfl
    have z10:=hC 10 rfl
    have z11:=hC 11 rfl
    try simp (disch:=first|exact dq|fail) only [go_sem,↓reduceIte,kZ2,kZ4,kZ5,kZ6,kZ8,kZ9,kZ10,kZ11] at z2 z4 z5 z6 z8 z9 z10 z11
    rcases Bool.eq_false_or_eq_true (bo.all fun y=>btL x y) with hsk|hsk
    ·rw [hsk] at r58
     have hI3:=hI.ext (xK.trans y2)
     have hsp:=@Nat.succ_ne_zero;repeat' (first|simp (disch:=first|exact dq|fail) only [go_sem,↓reduceIte,hsp,z2,z4,z5,z6,z8,z9,z10,z11,r58]|refine WP_drw ?_|refine cnd_intro (fun hsp=>?_) fun hsp=>?_)
     refine WP_cmeet [(12,87)] 0 ls.length (Nat.zero_le _) (fun H0 i fr h'=>fr 13=.int .i64 (i:Int)∧h'=H0∧fr 12=.bool ((ls.take i).any fun l=>x.all fun k=>!decide (k ∈ l))) (fun fr h'=>fr 12=.bool (ls.any fun l=>x.all fun k=>!decide (k ∈ l))∧h'=H3) ?_ ?_ ?_ ?_
     ·exact ⟨by (simp (disch:=first|exact dq|fail) only [go_sem,↓reduceIte,Int.natCast_zero];first|done|rfl),rfl,by simp (disch:=first|exact dq|fail) only [go_sem,↓reduceIte];simp⟩
     ·rintro i fr4 K4 hi0 hi hD ⟨d13,eK4,d12⟩
      subst eK4
      have d2:=hD 2 rfl
      have d4:=hD 4 rfl
      have d5:=hD 5 rfl
      have d6:=hD 6 rfl
      have d8:=hD 8 rfl
      have d9:=hD 9 rfl
      have d10:=hD 10 rfl
      have d11:=hD 11 rfl
      try simp (disch:=first|exact dq|fail) only [go_sem,↓reduceIte,z2,z4,z5,z6,z8,z9,z10,z11] at d2 d4 d5 d6 d8 d9 d10 d11
      have hlt3:((i:Int)<(ls.length:Int))=True:=eq_true (by omega)
      have hnL:=hI3.len (show ls.length<2 ^ 60 by omega)
      have hvL:=hI3.one
      rcases Bool.eq_false_or_eq_true ((ls.take i).any fun l=>x.all fun k=>!decide (k ∈ l)) with qa|qa
      ·rw [qa] at d12
       have r:(ls.any fun l=>x.all fun k=>!decide (k ∈ l))=true:=by
        obtain ⟨l,h1,h2⟩:=List.any_eq_true.1 qa
        exact List.any_eq_true.2 ⟨l,List.mem_of_mem_take h1,h2⟩
       rw [r]
       have hsp:=@Nat.succ_ne_zero;repeat' (first|simp (disch:=first|exact dq|fail) only [go_sem,↓reduceIte,hsp,d2,d4,d5,d6,d8,d9,d10,d11,d13,d12,hlt3,hnL]|refine WP_drw ?_|refine cnd_intro (fun hsp=>?_) fun hsp=>?_)
       all_goals exact agq
      ·rw [qa] at d12
       obtain ⟨l,el⟩:∃ l,l=ls[i]:=⟨_,rfl⟩
       have hl0:ls[i]?=some l:=by rw [el];exact List.getElem?_eq_getElem hi
       obtain ⟨m1,m2⟩:=hlm l (List.mem_of_getElem? hl0)
       obtain ⟨a,w,adw,ld,oW⟩:=hI3.at (show ls.length<2 ^ 60 by omega) hl0
       have hw1:=oW.one
       have ld0:=ld _ .refl
       have iW:Ints K4 w l:=(oW.rows (by omega)).ints (fun k hk=>by have:=m2 k hk;omega)
       have eh:=fun base (n:Int)=>run_hasR (base:=base) (n:=n) iW (by omega)
       have hsp:=@Nat.succ_ne_zero;repeat' (first|simp (disch:=first|exact dq|fail) only [go_sem,↓reduceIte,hsp,d2,d4,d5,d6,d8,d9,d10,d11,d13,d12,hlt3,hnL]|refine WP_drw ?_|refine cnd_intro (fun hsp=>?_) fun hsp=>?_)
       refine WP_count [(12,12),(14,87)] 0 x.length (Nat.zero_le _) (fun H0 k fr h'=>fr 14=.int .i64 (k:Int)∧h'=H0∧fr 12=.bool ((x.take k).all fun k=>!decide (k ∈ l))) ?_ ?_ ?_
       ·exact ⟨by (simp (disch:=first|exact dq|fail) only [go_sem,↓reduceIte,Int.natCast_zero];first|done|rfl),rfl,by simp (disch:=first|exact dq|fail) only [go_sem,↓reduceIte];simp⟩
       ·rintro k fr5 K5 hk0 hk hE ⟨e14,eK5,e12⟩
        subst eK5
        have e2:=hE 2 rfl
        have e4:=hE 4 rfl
        have e5:=hE 5 rfl
        have e6:=hE 6 rfl
        have e8:=hE 8 rfl
        have e9:=hE 9 rfl
        have e10:=hE 10 rfl
        have e11:=hE 11 rfl
        have e13:=hE 13 rfl
        try simp (disch:=first|exact dq|fail) only [go_sem,↓reduceIte,d2,d4,d5,d6,d8,d9,d10,d11,d13] at e2 e4 e5 e6 e8 e9 e10 e11 e13
        have hlt4:((k:Int)<(x.length:Int))=True:=eq_true (by omega)
        have hxk:x[k]?=some (x.getD k 0):=getD_some hk
        rw [all_take_succ _ hxk]
        generalize ((x.take k).all fun k=>!decide (k ∈ l))=z1 at e12 ⊢
        rcases Bool.eq_false_or_eq_true z1 with q1|q1
        ·rw [q1] at e12 ⊢
         have hsp:=@Nat.succ_ne_zero;repeat' (first|simp (disch:=first|exact dq|fail) only [go_sem,↓reduceIte,hsp,e2,e4,e5,e6,e8,e9,e10,e11,e13,e14,e12,hlt4,adw,ld0,eh]|refine WP_drw ?_|refine cnd_intro (fun hsp=>?_) fun hsp=>?_)
         exact ⟨agq,by omega,by rw [Bool.true_and]⟩
        ·rw [q1] at e12 ⊢
         have hsp:=@Nat.succ_ne_zero;repeat' (first|simp (disch:=first|exact dq|fail) only [go_sem,↓reduceIte,hsp,e2,e4,e5,e6,e8,e9,e10,e11,e13,e14,e12,hlt4]|refine WP_drw ?_|refine cnd_intro (fun hsp=>?_) fun hsp=>?_)
         exact ⟨agq,by omega,by rw [Bool.false_and]⟩
       ·rintro fr5 K5 hE ⟨e14,eK5,e12⟩
        subst eK5
        have e2:=hE 2 rfl
        have e4:=hE 4 rfl
        have e5:=hE 5 rfl
        have e6:=hE 6 rfl
        have e8:=hE 8 rfl
        have e9:=hE 9 rfl
        have e10:=hE 10 rfl
        have e11:=hE 11 rfl
        have e13:=hE 13 rfl
        try simp (disch:=first|exact dq|fail) only [go_sem,↓reduceIte,d2,d4,d5,d6,d8,d9,d10,d11,d13] at e2 e4 e5 e6 e8 e9 e10 e11 e13
        have hlt4:((x.length:Int)<(x.length:Int))=False:=eq_false (by omega)
        rw [List.take_length] at e12
        rw [any_take_succ _ hl0,qa,Bool.false_or]
        have hsp:=@Nat.succ_ne_zero;repeat' (first|simp (disch:=first|exact dq|fail) only [go_sem,↓reduceIte,hsp,e2,e4,e5,e6,e8,e9,e10,e11,e13,e14,e12,hlt4]|refine WP_drw ?_|refine cnd_intro (fun hsp=>?_) fun hsp=>?_)
        exact ⟨agq,by omega⟩
     ·rintro fr4 K4 hD ⟨d13,eK4,d12⟩
      subst eK4
      have d2:=hD 2 rfl
      have d4:=hD 4 rfl
      have d5:=hD 5 rfl
      have d6:=hD 6 rfl
      have d8:=hD 8 rfl
      have d9:=hD 9 rfl
      have d10:=hD 10 rfl
      have d11:=hD 11 rfl
      try simp (disch:=first|exact dq|fail) only [go_sem,↓reduceIte,z2,z4,z5,z6,z8,z9,z10,z11] at d2 d4 d5 d6 d8 d9 d10 d11
      have hlt3:((ls.length:Int)<(ls.length:Int))=False:=eq_false (by omega)
      have hnL:=hI3.len (show ls.length<2 ^ 60 by omega)
      have hvL:=hI3.one
      rw [List.take_length] at d12
      have hsp:=@Nat.succ_ne_zero;repeat' (first|simp (disch:=first|exact dq|fail) only [go_sem,↓reduceIte,hsp,d2,d4,d5,d6,d8,d9,d10,d11,d13,d12,hlt3,hnL]|refine WP_drw ?_|refine cnd_intro (fun hsp=>?_) fun hsp=>?_)
      all_goals exact agq
     ·rintro fr4 K4 hD ⟨d12,eK4⟩
      subst eK4
      have d2:=hD 2 rfl
      have d4:=hD 4 rfl
      have d5:=hD 5 rfl
      have d6:=hD 6 rfl
      have d8:=hD 8 rfl
      have d9:=hD 9 rfl
      have d10:=hD 10 rfl
      have d11:=hD 11 rfl
      try simp (disch:=first|exact dq|fail) only [go_sem,↓reduceIte,z2,z4,z5,z6,z8,z9,z10,z11] at d2 d4 d5 d6 d8 d9 d10 d11
      have eu:unxR ls x=!(ls.any fun l=>x.all fun k=>!decide (k ∈ l)):=rfl
      unfold pickO
      rw [hsk,eu,Bool.and_true]
      generalize (ls.any fun l=>x.all fun k=>!decide (k ∈ l))=z1 at d12 ⊢
      rcases Bool.eq_false_or_eq_true z1 with q1|q1
      ·rw [q1] at d12 ⊢
       have hsp:=@Nat.succ_ne_zero;repeat' (first|simp (disch:=first|exact dq|fail) only [go_sem,↓reduceIte,hsp,d2,d4,d5,d6,d8,d9,d10,d11,d12]|refine WP_drw ?_|refine cnd_intro (fun hsp=>?_) fun hsp=>?_)
       refine ⟨agq,by omega,xK.trans y2,?_⟩;first|exact ⟨rfl,_,rfl,hO.ext y2⟩|exact ⟨_,rfl,hO.ext y2⟩
      ·rw [q1] at d12 ⊢
       have hsp:=@Nat.succ_ne_zero;repeat' (first|simp (disch:=first|exact dq|fail) only [go_sem,↓reduceIte,hsp,d2,d4,d5,d6,d8,d9,d10,d11,d12]|refine WP_drw ?_|refine cnd_intro (fun hsp=>?_) fun hsp=>?_)
       refine ⟨agq,by omega,xK.trans y2,?_⟩;first|exact ⟨rfl,_,rfl,oX.low (Nat.zero_le _)⟩|exact ⟨_,rfl,oX.low (Nat.zero_le _)⟩
    ·rw [hsk] at r58
     have hsp:=@Nat.succ_ne_zero;repeat' (first|simp (disch:=first|exact dq|fail) only [go_sem,↓reduceIte,hsp,z2,z4,z5,z6,z8,z9,z10,z11,r58]|refine WP_drw ?_|refine cnd_intro (fun hsp=>?_) fun hsp=>?_)
     have e0:pickO btL (unxR ls) bo x=bo:=by unfold pickO;rw [hsk,Bool.and_false,if_neg (by decide)]
     rw [e0]
     refine ⟨agq,by omega,xK.trans y2,?_⟩;first|exact ⟨rfl,_,rfl,hO.ext y2⟩|exact ⟨_,rfl,hO.ext y2⟩
  ·rintro fr2 K hB ⟨q10,xK,q9,bv,q8,hO⟩
   have q2:=hB 2 rfl
   have q4:=hB 4 rfl
   have q5:=hB 5 rfl
   have q6:=hB 6 rfl
   try simp (disch:=first|exact dq|fail) only [go_sem,↓reduceIte,p2,p4,p5,p6] at q2 q4 q5 q6
   have hlt2:(((2 ^ L.ss.length-1+1:Nat):Int)<((2 ^ L.ss.length:Nat):Int))=False:=eq_false (by omega)
   have xhK:=(xG.trans xH1).trans xK
   have g1K:=(xH1.trans xK).get g1
   have hss:=fun base=>run_sets (base:=base) ho (hS.ext xhK) (by omega)
   have hb1:=hO.one
   have hsp:=@Nat.succ_ne_zero;repeat' (first|simp (disch:=first|exact dq|fail) only [go_sem,↓reduceIte,hsp,q2,q4,q5,q6,q10,q9,q8,hlt2,g1K,hss]|refine WP_drw ?_|refine cnd_intro (fun hsp=>?_) fun hsp=>?_)
   exact ⟨xhK,_,rfl,hO⟩
end Go.AM
