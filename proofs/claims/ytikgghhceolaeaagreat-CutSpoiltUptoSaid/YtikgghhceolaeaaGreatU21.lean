/-
  Looms: a loom that is made (lines of wip/f4 E36).
-/
import Derived.Test.YtikgghhceolaeaaGreatU20
import Derived.Test.YtikgghhceolaeaaGreatU18
import Derived.Test.YtikgghhceolaeaaGreatU12
import Derived.Test.YtikgghhceolaeaaGreatU19
set_option linter.unusedSimpArgs false
set_option linter.unusedVariables false
namespace Go.AM
open Go.Proofs.Tryz
attribute [-go_sem] put_ne put_same
attribute [local go_sem ↓] put_if
namespace Flt
def prtOk (R:Int) (p:Prt):Prop:=0<p.rib.length∧(1≤p.each∧p.each≤4)∧(0≤p.ph∧p.ph≤p.each-1)∧(∀ r ∈ p.rib,0≤r∧r≤R-1)∧riseB p.rib=true
def sgtOk (R T:Int) (s:Sgt):Prop:=(0≤s.rib∧s.rib≤R-1)∧(0≤s.lo∧s.lo≤T-1)∧(0≤s.hi∧s.hi≤T-1)∧s.lo≤s.hi
theorem riseB_of {l:List Int} (h:l.Pairwise (·<·)):riseB l=true:=by
 refine decide_eq_true fun i hi h0=>?_
 rw [getD_at hi,getD_at (show i-1<l.length by omega)]
 exact List.pairwise_iff_getElem.1 h _ _ _ hi (by omega)
theorem nodup_len {R:Int} {l:List Int} (hp:l.Pairwise (·<·)) (hr:∀ x ∈ l,0≤x∧x≤R-1):(l.length:Int)≤max R 0:=by
 have hn:l.Nodup:=hp.imp fun h=>by omega
 have:=pigeon (R:=fun (a:Int) (b:Nat)=>a=(b:Int)) (t:=List.range R.toNat) hn (fun a ha=>⟨a.toNat,List.mem_range.2 (by have:=hr a ha;omega),by have:=hr a ha;omega⟩) (fun a _ c _ b _ h1 h2=>h1.trans h2.symm)
 rw [List.length_range] at this
 omega
theorem small_rise {R:Int} {p:Prt} (h:prtOk R p) (hR:R≤1000:=by omega):Small p.rib:=by
 obtain ⟨_,_,_,h4,h5⟩:=h
 have:=nodup_len (rise_pair h5) h4
 exact ⟨by omega,fun x hx=>by have:=h4 x hx;omega⟩
theorem run_sgt' {base:Nat} {h:Heap} {r lo hi:Int} {b:Bool}:callL prog raw base (.fn 31 [] []) [.int .i64 r,.int .i64 lo,.int .i64 hi,.bool b] h=some (.agg [.int .i64 r,.int .i64 lo,.int .i64 hi,.bool b],h):=run_sgt
theorem truth_len {L:Lom} {t:List Brk} (ht:truOk L t):t.length≤L.ps.length:=by
 have hp:=(List.pairwise_map (f:=fun b:Brk=>b.1) (R:=(·<·))).2 ht.1
 have:=nodup_len (R:=L.ps.length) hp (fun x hx=>by
  obtain ⟨b,hb,rfl⟩:=List.mem_map.1 hx
  have:=ht.2 b hb
  exact ⟨this.1,by have:=this.2.1;omega⟩)
 rw [List.length_map] at this
 omega
theorem stE36 {base:Nat} {l:List Oper} {s:St} {Q:AExit→St→Prop}:WP prog raw base (.region 19 l.toArray true) s Q=WPS prog raw base (.region 19 l.toArray true) s Q:=WP_stop
attribute [local go_sem ↓ 3000] stE36
set_option maxHeartbeats 2000000 in
theorem run_made {base id k0:Nat} {h:Heap} {v:AVal} {silk:List Int} {T0 P0 S0:Int} (hb:base≤h.length) (hS:SpAt h id v silk k0) (hk:k0≤1000) (hT0:1≤T0∧T0≤12) (hP0:1≤P0∧P0≤6) (hS0:0≤S0∧S0≤10) :
  Ret prog raw base (.fn 5 [] []) [.ptr (some ⟨id,0,0⟩),.int .i64 T0,.int .i64 P0,.int .i64 S0] h (fun w H=>∃ L t k' pv sv tv,(k0≤k'∧k'≤k0+1000)∧SpE h id v silk k' H∧w=.tuple [lomV L.R L.T pv sv,tv]∧OwnP h.length H pv L.ps∧Own encS 86 h.length H sv L.ss∧Own encB 38 h.length H tv t∧chkM L=0∧XpA L t∧L.R≤4∧L.T≤T0∧L.ps.length≤P0∧L.ss.length≤S0):=by
 have hid:=lt_of_get hS.1
 refine ret_raw func5 rfl (by kernel_rfl) ?_
 have hsp:=@Nat.succ_ne_zero;repeat' (first|simp (disch:=first|exact dqd|fail) only [go_sem,↓reduceIte,hsp,run_from]|refine WP_drw ?_|refine cnd_intro (fun hsp=>?_) fun hsp=>?_)
 have uR:=up_bd (silk:=silk) (k:=k0) (n:=4-1) (by omega)
 have uT:=up_bd (silk:=silk) (k:=k0+1) (n:=T0-1) (by omega)
 have uP:=up_bd (silk:=silk) (k:=k0+1+1) (n:=P0-1) (by omega)
 have hR:1≤1+up silk k0 (4-1)∧1+up silk k0 (4-1)≤4:=by omega
 have hT:1≤1+up silk (k0+1) (T0-1)∧1+up silk (k0+1) (T0-1)≤T0:=by omega
 obtain ⟨n,en⟩:=Int.eq_ofNat_of_zero_le (show 0≤1+up silk (k0+1+1) (P0-1) by omega)
 have hn:1≤n∧(n:Int)≤P0:=by omega
 simp only [en]
 generalize 1+up silk k0 (4-1)=R at hR ⊢
 generalize 1+up silk (k0+1) (T0-1)=T at hT ⊢
 clear uR uT uP en
 have hSr:SpAt (h++[lmB 0 0 (.slice none 0 0) (.slice none 0 0)]) id v silk k0:=hS.app
 have hidr:id<(h++[lmB 0 0 (.slice none 0 0) (.slice none 0 0)]).length:=by simp;omega
 refine WP_count [(11,13),(26,70)] 0 n (Nat.zero_le _) (fun _ i fr h'=>fr 26=.int .i64 (i:Int)∧∃ ps pv k',(k0≤k'∧k'≤k0+3+10 * i)∧SpE (h++[lmB 0 0 (.slice none 0 0) (.slice none 0 0)]) id v silk k' h'∧h'[h.length+1]?=some (lmB R T pv (.slice none 0 0))∧OwnP (h.length+2) h' pv ps∧ps.length=i∧(∀ p ∈ ps,prtOk R p)∧h.length+2≤h'.length) ?_ ?_ ?_
 ·refine ⟨by (simp (disch:=first|exact dqd|fail) only [go_sem,↓reduceIte,Int.natCast_zero];first|done|rfl),[],_,k0+1+1+1,by omega,?_,by simp,OwnP.nil,rfl,fun p hp=>by simp at hp,by simp⟩
  exact ((SpE.refl hSr).step hidr).ext (by rw [List.set_append_left _ _ hid];exact .app .refl)
 ·rintro i fr H hi0 hi hA ⟨r26,ps,pv,k',hk',xH,gL,oP,hpl,hps,hHl⟩
  have p0:=hA 0 rfl
  have p3:=hA 3 rfl
  have p8:=hA 8 rfl
  have p9:=hA 9 rfl
  have p10:=hA 10 rfl
  have p25:=hA 25 rfl
  try simp (disch:=first|exact dqd|fail) only [go_sem,↓reduceIte] at p0 p3 p8 p9 p10 p25
  have hlt:((i:Int)<(n:Int))=True:=eq_true (by omega)
  have hSp:=xH.at hSr
  have hkk:k'≤900000:=by omega
  have hpv1:=oP.one
  have gL':∀ {b:ABlk},(H.set id b)[h.length+1]?=some (lmB R T pv (.slice none 0 0)):=fun {b}=>by rw [List.getElem?_set_ne (by omega)];exact gL
  have ue:=up_bd (silk:=silk) (k:=k') (n:=4 - -1) (by omega)
  have he:1≤max 1 (-1+up silk k' (4 - -1))∧max 1 (-1+up silk k' (4 - -1))≤4:=by omega
  have uf:=up_bd (silk:=silk) (k:=k'+1+1) (n:=max 1 (-1+up silk k' (4 - -1))-1) (by omega)
  have us:=up_bd (silk:=silk) (k:=k'+1+1+1) (n:=R-1) (by omega)
  have hsp:=@Nat.succ_ne_zero;repeat' (first|simp (disch:=first|exact dqd|fail) only [go_sem,↓reduceIte,hsp,r26,p0,p3,p8,p9,p10,p25,hlt,run_from,run_once,run_upto,gL']|refine WP_drw ?_|refine cnd_intro (fun hsp=>?_) fun hsp=>?_)
  clear gL'
  generalize up silk (k'+1+1) (max 1 (-1+up silk k' (4 - -1))-1)=ph at uf ⊢
  generalize max 1 (-1+up silk k' (4 - -1))=each at he uf ⊢
  generalize decide (up silk (k'+1) (2-1)=0)=wv
  generalize up silk (k'+1+1+1) (R-1)=sure at us ⊢
  obtain ⟨nR,enR⟩:=Int.eq_ofNat_of_zero_le (show 0≤R by omega)
  refine WP_count [(13,13),(47,63)] 0 nR (Nat.zero_le _) (fun _ r fr h'=>fr 47=.int .i64 (r:Int)∧∃ l w k2,(k'+4≤k2∧k2≤k'+4+r)∧SpE H id v silk k2 h'∧h'[H.length]?=some (prB w each ph wv)∧Own encI 3 (H.length+1) h' w l∧l.Pairwise (·<·)∧(∀ x ∈ l,0≤x∧x<(r:Int))∧(sure<(r:Int)→sure ∈ l)∧l.length≤r∧H.length+1≤h'.length) ?_ ?_ ?_
  ·refine ⟨by (simp (disch:=first|exact dqd|fail) only [go_sem,↓reduceIte,Int.natCast_zero];first|done|rfl),[],_,k'+1+1+1+1,by omega,?_,get_eq (by simp),Own.nil,.nil,fun x hx=>by simp at hx,fun q=>by omega,Nat.le_refl _,by simp⟩
   exact ((SpE.refl hSp).step (lt_of_get hSp.1)).app
  ·rintro r fr2 H2 hr0 hr hA2 ⟨r47,l,w,k2,hk2,x2,gP,oW,hpw,hln,hsu,hll,hH2⟩
   have q0:=hA2 0 rfl
   have q3:=hA2 3 rfl
   have q8:=hA2 8 rfl
   have q9:=hA2 9 rfl
   have q10:=hA2 10 rfl
   have q11:=hA2 11 rfl
   have q12:=hA2 12 rfl
   have q25:=hA2 25 rfl
   have q26:=hA2 26 rfl
   have q46:=hA2 46 rfl
   try simp (disch:=first|exact dqd|fail) only [go_sem,↓reduceIte,p0,p3,p8,p9,p10,p25] at q0 q3 q8 q9 q10 q11 q12 q25 q26 q46
   have q46:=hA2 46 rfl;simp (disch:=first|exact dqd|fail) only [go_sem,↓reduceIte] at q46
   have hltr:((r:Int)<R)=True:=eq_true (by omega)
   have hSp2:=x2.at hSp
   have hk2':k2≤900000:=by omega
   have hidH:=lt_of_get hSp.1
   have hw1:=oW.one
   have grow:∀ (k3:Nat) (Hc:Heap),SpE H id v silk k3 Hc→Hc[H.length]?=some (prB w each ph wv)→Own encI 3 (H.length+1) Hc w l→H.length+1≤Hc.length→∃ w' H',appendA prog base Hc 32 w (.vals [.int .i64 (r:Int)])=some (w',H')∧H'[H.length]?=some ⟨.cells [w,.int .i64 each,.int .i64 ph,.bool wv] 81 false false,0⟩∧One w'∧SpE H id v silk k3 (H'.set H.length (prB w' each ph wv))∧(H'.set H.length (prB w' each ph wv))[H.length]?=some (prB w' each ph wv)∧Own encI 3 (H.length+1) (H'.set H.length (prB w' each ph wv)) w' (l++[(r:Int)])∧H.length+1≤(H'.set H.length (prB w' each ph wv)).length:=by
    intro k3 Hc y1 y2 y3 y4
    obtain ⟨w',H',a1,a2,a3,a4,a5,a6⟩:=y3.append1X (P:=prog) (y:=(r:Int)) (base:=base) (t:=32) rfl rfl Fc.el32 encI_sc (by omega) y4 (by omega)
    have kp:KeepO encI 3 Hc H':=a6
    have g:=kp.box (i:=H.length) y2
    exact ⟨w',H',a1,g,a5,(a4 _ (by simp) y1).set (by simp),by rw [List.getElem?_set_self (by omega)],a2.setBox g,by rw [List.length_set];omega⟩
   have grown:(l++[(r:Int)]).Pairwise (·<·)∧(∀ x ∈ l++[(r:Int)],0≤x∧x<((r+1:Nat):Int))∧(l++[(r:Int)]).length≤r+1:=by
    refine ⟨List.pairwise_append.2 ⟨hpw,List.pairwise_singleton _ _,fun a ha b hb=>?_⟩,fun x hx=>?_,by simp;omega⟩
    ·rw [List.mem_singleton] at hb;have:=hln a ha;omega
    ·rcases List.mem_append.1 hx with hx|hx
     ·have:=hln x hx;omega
     ·rw [List.mem_singleton] at hx;omega
   by_cases c1:(r:Int)=sure
   ·obtain ⟨w',H',a1,a2,a3,a4,a5,a6,a7⟩:=grow k2 H2 x2 gP oW hH2
    have t1:((r:Int)=sure)=True:=eq_true c1
    have hsp:=@Nat.succ_ne_zero;repeat' (first|simp (disch:=first|exact dqd|fail) only [go_sem,↓reduceIte,hsp,r47,q0,q3,q8,q9,q10,q11,q12,q25,q26,q46,q46,hltr,t1,gP,prB,a1,a2]|refine WP_drw ?_|refine cnd_intro (fun hsp=>?_) fun hsp=>?_)
    exact ⟨agq,by omega,_,w',k2,by omega,a4,a5,a6,grown.1,grown.2.1,fun _=>List.mem_append_right _ (by simp [c1]),grown.2.2,by simpa using a7⟩
   ·have t1:((r:Int)=sure)=False:=eq_false c1
    by_cases c2:up silk k2 (3-1)=0
    ·have t2:(up silk k2 (3-1)=0)=True:=eq_true c2
     obtain ⟨w',H',a1,a2,a3,a4,a5,a6,a7⟩:=grow (k2+1) (H2.set id (spB v silk (k2+1))) (x2.step hidH) (by rw [List.getElem?_set_ne (by omega)];exact gP) (oW.set (by omega)) (by rw [List.length_set];exact hH2)
     have hsp:=@Nat.succ_ne_zero;repeat' (first|simp (disch:=first|exact dqd|fail) only [go_sem,↓reduceIte,hsp,r47,q0,q3,q8,q9,q10,q11,q12,q25,q26,q46,q46,hltr,t1,t2,run_once,decide_true,gP,prB,a1,a2]|refine WP_drw ?_|refine cnd_intro (fun hsp=>?_) fun hsp=>?_)
     exact ⟨agq,by omega,_,w',k2+1,by omega,a4,a5,a6,grown.1,grown.2.1,fun q=>List.mem_append_left _ (hsu (by omega)),grown.2.2,by simpa using a7⟩
    ·have t2:(up silk k2 (3-1)=0)=False:=eq_false c2
     have hsp:=@Nat.succ_ne_zero;repeat' (first|simp (disch:=first|exact dqd|fail) only [go_sem,↓reduceIte,hsp,r47,q0,q3,q8,q9,q10,q11,q12,q25,q26,q46,q46,hltr,t1,t2,run_once,decide_false,gP,prB]|refine WP_drw ?_|refine cnd_intro (fun hsp=>?_) fun hsp=>?_)
     exact ⟨agq,by omega,l,w,k2+1,by omega,x2.step hidH,rfl,oW.set (by omega),hpw,fun x hx=>by have:=hln x hx;omega,fun q=>hsu (by omega),by omega,hH2⟩
  ·rintro fr2 H2 hA2 ⟨r47,l,w,k2,hk2,x2,gP,oW,hpw,hln,hsu,hll,hH2⟩
   have q0:=hA2 0 rfl
   have q3:=hA2 3 rfl
   have q8:=hA2 8 rfl
   have q9:=hA2 9 rfl
   have q10:=hA2 10 rfl
   have q11:=hA2 11 rfl
   have q12:=hA2 12 rfl
   have q25:=hA2 25 rfl
   have q26:=hA2 26 rfl
   have q46:=hA2 46 rfl
   try simp (disch:=first|exact dqd|fail) only [go_sem,↓reduceIte,p0,p3,p8,p9,p10,p25] at q0 q3 q8 q9 q10 q11 q12 q25 q26 q46
   have q46:=hA2 46 rfl;simp (disch:=first|exact dqd|fail) only [go_sem,↓reduceIte] at q46
   have hltr:((nR:Int)<R)=False:=eq_false (by omega)
   have gL2:H2[h.length+1]?=some (lmB R T pv (.slice none 0 0)):=x2.get (by omega) gL
   have hw1:=oW.one
   have bsW:∀ {lit:Bool} {A:Heap},bsA prog lit A 23 1 [(0,.agg [w,.int .i64 each,.int .i64 ph,.bool wv])]=some (.slice (some ⟨A.length,0,0⟩) 1 1,A++[rowE encP 81 [⟨w,each,ph,wv⟩] 0]):=fun {lit A}=>by
    simp [bsA,rowOf,Fc.el23,fillA,repCells,AVal.isN,AVal.cells,splice,rowE,flat,encP,norm_one hw1]
   have oP2:=((oP.setBox (k:=spB v silk k2) hSp.1).ext x2).ext (.app (t:=[rowE encP 81 [⟨w,each,ph,wv⟩] 0]) .refl)
   have oW2:=(oW.low (b':=h.length+2) (by omega)).app (T:=[rowE encP 81 [⟨w,each,ph,wv⟩] 0])
   obtain ⟨v',h',a1,a2,a3,a4,a5,a6⟩:=oP2.snoc (base:=base) (p:=⟨l,each,ph,wv⟩) oW2 (by omega) (by simp;omega) (by omega) (by simp)
   have gL3:=a6.box (i:=h.length+1) (get_app gL2)
   simp only [List.length_append,List.length_cons,List.length_nil] at a3
   rw [List.length_append,List.length_cons,List.length_nil,Nat.zero_add,Nat.add_sub_cancel] at a1
   have hsp:=@Nat.succ_ne_zero;repeat' (first|simp (disch:=first|exact dqd|fail) only [go_sem,↓reduceIte,hsp,r26,r47,q0,q3,q8,q9,q10,q11,q12,q25,q26,q46,q46,hltr,gP,gL2,prB,bsW,a1,gL3]|refine WP_drw ?_|refine cnd_intro (fun hsp=>?_) fun hsp=>?_)
   have y4:SpE (h++[lmB 0 0 (.slice none 0 0) (.slice none 0 0)]) id v silk k2 (H2++[rowE encP 81 [⟨w,each,ph,wv⟩] 0]):=((xH.step (k':=k2) hidr).ext x2).app
   refine ⟨agq,by omega,ps++[⟨l,each,ph,wv⟩],v',k2,by omega,(a4 _ (by simp) y4).set (by simp),rfl,a2.setBox gL3,by simp [hpl],fun p hp=>?_,by omega⟩
   rcases List.mem_append.1 hp with hp|hp
   ·exact hps p hp
   ·rw [List.mem_singleton] at hp
    subst hp
    have hm:=hsu (by omega)
    exact ⟨List.length_pos_of_mem hm,he,by simp only;omega,fun x hx=>by have:=hln x hx;omega,riseB_of hpw⟩
 ·rintro fr H hA ⟨r26,ps,pv,k',hk',xH,gL,oP,hpl,hps,hHl⟩
  have p0:=hA 0 rfl
  have p3:=hA 3 rfl
  have p8:=hA 8 rfl
  have p9:=hA 9 rfl
  have p10:=hA 10 rfl
  have p25:=hA 25 rfl
  try simp (disch:=first|exact dqd|fail) only [go_sem,↓reduceIte] at p0 p3 p8 p9 p10 p25
  have hlt:((n:Int)<(n:Int))=False:=eq_false (by omega)
  have hsm:∀ p ∈ ps,Small p.rib:=fun p hp=>small_rise (hps p hp)
  have hPP:=oP.parts (by omega) hsm
  have hc0:chkM ⟨R,T,ps,[]⟩=0:=chkM_of (L:=⟨R,T,ps,[]⟩) (by simp only;omega) (by simp only;omega) (by simp only;omega) (by simp) hps (fun s hs=>by simp at hs)
  obtain ⟨w1,H1,e1,t,k1,hk1,y1,oT,hT1⟩:=run_tried (base:=base) (L:=⟨R,T,ps,[]⟩) (sv:=.slice none 0 0) (by omega) (xH.at hSr) (by omega) hPP ⟨rfl,rfl,rfl⟩ hc0
  have hid1:=lt_of_get (xH.at hSr).1
  have gL1:H1[h.length+1]?=some (lmB R T pv (.slice none 0 0)):=y1.get (by omega) gL
  have hSp1:=y1.at (xH.at hSr)
  have uS:=up_bd (silk:=silk) (k:=k1) (n:=S0) (by omega)
  obtain ⟨m,em⟩:=Int.eq_ofNat_of_zero_le (show 0≤up silk k1 S0 by omega)
  have hk1':k1≤900000:=by omega
  have hw1:=oT.one
  have hsp:=@Nat.succ_ne_zero;repeat' (first|simp (disch:=first|exact dqd|fail) only [go_sem,↓reduceIte,hsp,r26,p0,p3,p8,p9,p10,p25,hlt,gL,e1,run_upto,em]|refine WP_drw ?_|refine cnd_intro (fun hsp=>?_) fun hsp=>?_)
  have oP1:=((oP.setBox (k:=spB v silk k1) (xH.at hSr).1).ext y1)
  refine WP_count [(15,16),(77,110)] 0 m (Nat.zero_le _) (fun _ j fr h'=>fr 77=.int .i64 (j:Int)∧∃ ss sv k2,(k1+1≤k2∧k2≤k1+1+3 * j)∧SpE (h++[lmB 0 0 (.slice none 0 0) (.slice none 0 0)]) id v silk k2 h'∧h'[h.length+1]?=some (lmB R T pv sv)∧OwnP (h.length+2) h' pv ps∧Own encS 86 (h.length+2) h' sv ss∧Own encB 38 (h.length+2) h' w1 t∧ss.length=j∧(∀ s ∈ ss,sgtOk R T s∧s.bad=badB ⟨R,T,ps,[]⟩ t s)∧h.length+2≤h'.length) ?_ ?_ ?_
  ·have y2:SpE (h++[lmB 0 0 (.slice none 0 0) (.slice none 0 0)]) id v silk k1 H1:=(xH.step (k':=k1) hidr).ext y1
   have hl1:=y1.len
   exact ⟨by (simp (disch:=first|exact dqd|fail) only [go_sem,↓reduceIte,Int.natCast_zero];first|done|rfl),[],.slice none 0 0,k1+1,by omega,y2.step hidr,by rw [List.getElem?_set_ne (by omega)];exact gL1,oP1.setBox hSp1.1,Own.nil,(oT.low (by omega)).set (by omega),rfl,fun s hs=>by simp at hs,by rw [List.length_set];omega⟩
  ·rintro j fr2 G hj0 hj hA2 ⟨r77,ss,sv,k2,hk2,xG,gG,oPG,oSG,oTG,hsl,hss,hGl⟩
   have q0:=hA2 0 rfl
   have q8:=hA2 8 rfl
   have q9:=hA2 9 rfl
   have q10:=hA2 10 rfl
   have q14:=hA2 14 rfl
   have q76:=hA2 76 rfl
   try simp (disch:=first|exact dqd|fail) only [go_sem,↓reduceIte] at q0 q8 q9 q10 q14 q76
   have hltj:((j:Int)<(m:Int))=True:=eq_true (by omega)
   have hSpG:=xG.at hSr
   have hk2':k2≤900000:=by omega
   have hsv1:=oSG.one
   have hpv1:=oPG.one
   have gG':∀ {b:ABlk},(G.set id b)[h.length+1]?=some ⟨.cells [.int .i64 R,.int .i64 T,pv,sv] 26 false false,0⟩:=fun {b}=>by rw [List.getElem?_set_ne (by omega)];exact gG
   have u1:=up_bd (silk:=silk) (k:=k2) (n:=T-1) (by omega)
   have u2:=up_bd (silk:=silk) (k:=k2+1) (n:=R-1) (by omega)
   have u3:=up_bd (silk:=silk) (k:=k2+1+1) (n:=3) (by omega)
   have hsp:=@Nat.succ_ne_zero;repeat' (first|simp (disch:=first|exact dqd|fail) only [go_sem,↓reduceIte,hsp,r77,q0,q8,q9,q10,q14,q76,p0,p3,p8,p9,p10,p25,hltj,run_upto,gG,gG']|refine WP_drw ?_|refine cnd_intro (fun hsp=>?_) fun hsp=>?_)
   refine WPS_go ?_
   refine WP_wild [⟨7,3,90,⟨h.length+1,0,1⟩,.int .i64 T,14⟩] (by kernel_rfl) (by kernel_rfl) (by kernel_rfl) ⟨refsLow_int,trivial⟩ fun K hK=>?_
   iterate 17
    rw [TRS_cons]
    refine ⟨by first|(simp (disch:=first|exact dqd|fail) only [go_sem,↓reduceIte,run_upto,run_sgt',r77,q0,q8,q9,q10,q14,q76,p0,p3,p8,p9,p10,p25,gG',ldsQ_cons,ldsQ_nil,grdQ_cons,grdQ_nil,if_true,Nat.reduceLeDiff];done)|exact trivial,?_⟩
    simp (disch:=first|exact dqd|fail) only [go_sem,↓reduceIte,run_upto,run_sgt',r77,q0,q8,q9,q10,q14,q76,p0,p3,p8,p9,p10,p25,gG']
   rw [TRS_nil]
   refine ⟨by first|(simp (disch:=first|exact dqd|fail) only [go_sem,↓reduceIte,run_upto,run_sgt',r77,q0,q8,q9,q10,q14,q76,p0,p3,p8,p9,p10,p25,gG',ldsQ_cons,ldsQ_nil,grdQ_cons,grdQ_nil,if_true,Nat.reduceLeDiff];done)|exact trivial,?_⟩
   subst hK
   generalize up silk k2 (T-1)=lo at u1 ⊢
   generalize up silk (k2+1) (R-1)=rb at u2 ⊢
   obtain ⟨hi,ehi⟩:∃ hi,hi=min (T-1) (lo+up silk (k2+1+1) 3):=⟨_,rfl⟩
   rw [← ehi]
   have hs0:sgtOk R T ⟨rb,lo,hi,false⟩:=⟨by simp only;omega,by simp only;omega,by simp only;omega,by simp only;omega⟩
   obtain ⟨bb,ebb⟩:∃ bb,bb=badB ⟨R,T,ps,ss⟩ t ⟨rb,lo,hi,false⟩:=⟨_,rfl⟩
   have x3:=xG.step (k':=k2+1+1+1) hidr
   have oP3:=oPG.setBox (k:=spB v silk (k2+1+1+1)) hSpG.1
   have oS3:=oSG.setBox (k:=spB v silk (k2+1+1+1)) hSpG.1
   have oT3:=oTG.setBox (k:=spB v silk (k2+1+1+1)) hSpG.1
   have gG3:=gG' (b:=spB v silk (k2+1+1+1))
   have hl3:(G.set id (spB v silk (k2+1+1+1))).length=G.length:=List.length_set
   generalize G.set id (spB v silk (k2+1+1+1))=G3 at x3 oP3 oS3 oT3 gG3 hl3 ⊢
   have hcS:chkM ⟨R,T,ps,ss⟩=0:=chkM_of (by simp only;omega) (by simp only;omega) (by simp only;omega) (by simp only;omega) hps (fun s hs=>(hss s hs).1)
   have htl:t.length≤1000:=by have:=truth_len hT1;simp only at this;omega
   have eb:∀ {base:Nat} {c:ABlk},callL prog raw base (.fn 32 [] []) [.agg [.int .i64 R,.int .i64 T,pv,sv],w1,.agg [.int .i64 rb,.int .i64 lo,.int .i64 hi,.bool false]] (G3++[c])=some (.bool bb,G3++[c]):=fun {base c}=>by
    rw [ebb]
    exact run_bad (L:=⟨R,T,ps,ss⟩) ((oP3.parts (by omega) hsm).ext (.app .refl)) hsv1 hcS ((oT3.rows (by omega)).app) hT1.2 (s:=⟨rb,lo,hi,false⟩) (by unfold sgOk;simp only;omega)
   obtain ⟨v',h',a1,a2,a3,a4,a5,a6⟩:=((oS3.app (T:=[sgB' ⟨rb,lo,hi,bb⟩])).app (T:=[rowE encS 86 [⟨rb,lo,hi,bb⟩] 0])).appendRX (P:=prog) (x:=.slice (some ⟨G.length+1,0,0⟩) 1 1) (m:=[⟨rb,lo,hi,bb⟩]) (base:=base) (t:=24) (Rows.own (get_eq (by simp;omega)) rfl (by simp)) Fc.el24 encS_sc (by omega) (by simp;omega) (by simp) (by simp;omega)
   have kp:KeepO encS 86 _ h':=a6
   have gL4:=kp.box (i:=h.length+1) (get_app (get_app gG3))
   rw [sgB'] at a1
   simp only [List.length_append,List.length_cons,List.length_nil] at a3
   have bs1:∀ {lit:Bool} {A:Heap},bsA prog lit A 24 1 [(0,.agg [.int .i64 rb,.int .i64 lo,.int .i64 hi,.bool bb])]=some (.slice (some ⟨A.length,0,0⟩) 1 1,A++[rowE encS 86 [⟨rb,lo,hi,bb⟩] 0]):=fun {lit A}=>bsS1 (s:=⟨rb,lo,hi,bb⟩)
   have hsp:=@Nat.succ_ne_zero;repeat' (first|simp (disch:=first|exact dqd|fail) only [go_sem,↓reduceIte,hsp,r77,q0,q8,q9,q10,q14,q76,p0,p3,p8,p9,p10,p25,gG3,hl3,eb,bs1,a1,gL4]|refine WP_drw ?_|refine cnd_intro (fun hsp=>?_) fun hsp=>?_)
   have oP4:=((oP3.ext (.app (t:=[sgB' ⟨rb,lo,hi,bb⟩]) .refl)).ext (.app (t:=[rowE encS 86 [⟨rb,lo,hi,bb⟩] 0]) .refl)).mapH (H':=h') (fun _ _ y=>kp.own y (by decide)) (fun _ _ y=>kp.own y (by decide))
   have oT4:=kp.own (oT3.app.app) (by decide)
   refine ⟨agq,by omega,ss++[⟨rb,lo,hi,bb⟩],v',k2+1+1+1,by omega,(a4 _ (by simp) x3.app.app).set (by simp),rfl,oP4.setBox gL4,a2.setBox gL4,oT4.setBox gL4,by simp [hsl],fun s hs=>?_,by omega⟩
   rcases List.mem_append.1 hs with hs|hs
   ·exact hss s hs
   ·rw [List.mem_singleton] at hs
    subst hs
    exact ⟨hs0,ebb⟩
  ·rintro fr2 G hA2 ⟨r77,ss,sv,k2,hk2,xG,gG,oPG,oSG,oTG,hsl,hss,hGl⟩
   have q0:=hA2 0 rfl
   have q8:=hA2 8 rfl
   have q9:=hA2 9 rfl
   have q10:=hA2 10 rfl
   have q14:=hA2 14 rfl
   have q76:=hA2 76 rfl
   try simp (disch:=first|exact dqd|fail) only [go_sem,↓reduceIte] at q0 q8 q9 q10 q14 q76
   have hltj:((m:Int)<(m:Int))=False:=eq_false (by omega)
   have hsv1:=oSG.one
   have hpv1:=oPG.one
   have gR:G[h.length]?=some (lmB 0 0 (.slice none 0 0) (.slice none 0 0)):=xG.get (by omega) (by simp)
   have hsp:=@Nat.succ_ne_zero;repeat' (first|simp (disch:=first|exact dqd|fail) only [go_sem,↓reduceIte,hsp,r77,q0,q8,q9,q10,q14,q76,p0,p3,p8,p9,p10,p25,hltj,gG,gR]|refine WP_drw ?_|refine cnd_intro (fun hsp=>?_) fun hsp=>?_)
   have x4:SpE h id v silk k2 (G.set h.length (lmB R T pv sv)):=Ext.set (xG.low hid) (by simp)
   have hss2:∀ s ∈ ss,sgtOk R T s:=fun s hs=>(hss s hs).1
   refine ⟨⟨R,T,ps,ss⟩,t,k2,pv,sv,w1,by omega,x4,rfl,?_,(oSG.setBox gR).low (by omega),(oTG.setBox gR).low (by omega),chkM_of (by simp only;omega) (by simp only;omega) (by simp only;omega) (by simp only;omega) hps hss2,⟨hT1,fun i hi=>?_⟩,by simp only;omega,by simp only;omega,by simp only;omega,by simp only;omega⟩
   ·exact (oPG.setBox gR).low (by omega)
   ·have hm:=sgtI_mem (upto_mem.1 hi)
    have e1:(⟨R,T,ps,ss⟩:Lom).ss=ss:=rfl
    rw [← badB_iff (L:=⟨R,T,ps,ss⟩) hT1.2]
    have:=(hss _ hm).2
    unfold badI
    rw [show badB ⟨R,T,ps,ss⟩ t (sgtI ⟨R,T,ps,ss⟩ i)=(sgtI ⟨R,T,ps,ss⟩ i).bad from this.symm]
    rfl
end Flt
end Go.AM
namespace Go.AM
open Go.Proofs.Tryz
attribute [-go_sem] put_ne put_same
attribute [local go_sem ↓] put_if
namespace Flt
theorem run_cloneB {base:Nat} {h:Heap} {v:AVal} {l:List Brk} (hR:Rows encB h v l) (hs:l.length≤1048576) :
  Ret prog raw base (.fn 18 [] []) [v] h (fun w H=>Ext h H∧OwnE encB 38 h.length H w l∧(l ≠ []→w=.slice (some ⟨h.length,0,0⟩) l.length l.length∧H=h++[rowE encB 38 l 0])):=by
 have hl:=hR.1
 have ov:=hR.one
 refine ret_raw func18 rfl (by kernel_rfl) ?_
 rcases hR.nilEq2 (P:=prog) (t:=27) (e:=38) underlying27 with ⟨rfl,rfl,e⟩|e
 ·have hsp:=@Nat.succ_ne_zero;repeat' (first|simp (disch:=first|exact dqb|fail) only [go_sem,↓reduceIte,hsp,e]|refine WP_drw ?_|refine cnd_intro (fun hsp=>?_) fun hsp=>?_)
  exact ⟨.refl,.inl Own.nil,fun q=>q.elim⟩
 ·have hbe:∀ {lit:Bool},bsA prog lit h 27 0 []=some (.emp,h):=fun {lit}=>bs_emp Fc.el27
  by_cases hn:l=[]
  ·subst hn
   have ha:=fun base=>app_none (base:=base) hR Fc.el27
   have hsp:=@Nat.succ_ne_zero;repeat' (first|simp (disch:=first|exact dqb|fail) only [go_sem,↓reduceIte,hsp,e,hbe,ha]|refine WP_drw ?_|refine cnd_intro (fun hsp=>?_) fun hsp=>?_)
   exact ⟨.refl,.inr ⟨rfl,rfl⟩,fun q=>q.elim⟩
  ·have ha:=fun base=>app_empE (base:=base) hR hn encB_sc (by omega) Fc.el27
   have hsp:=@Nat.succ_ne_zero;repeat' (first|simp (disch:=first|exact dqb|fail) only [go_sem,↓reduceIte,hsp,e,hbe,ha]|refine WP_drw ?_|refine cnd_intro (fun hsp=>?_) fun hsp=>?_)
   exact ⟨.app .refl,.inl (.inr ⟨h.length,0,rfl,get_eq rfl,Nat.le_refl _,List.length_pos_iff.2 hn⟩),fun _=>trivial⟩
section
variable {base id:Nat} {h:Heap} {m:List Brk}
abbrev bkB (m:List Brk):ABlk:=rowE encB 38 m 0
theorem stB {o:Nat} {z:List Brk} (hg:h[id]?=some (bkB m)) (hb:base≤id) (ho:o+z.length≤m.length):storeN base h ⟨id,0,o * 3⟩ (flat encB z)=some (h.set id (bkB (m.take o++z++m.drop (o+z.length)))):=by
 have e:flat encB m=flat encB (m.take o)++flat encB ((m.drop o).take z.length)++flat encB (m.drop (o+z.length)):=by
  rw [← flat_app,← flat_app]
  congr 1
  rw [List.append_assoc,← List.drop_drop,List.take_append_drop,List.take_append_drop]
 have hz:encB.z=3:=rfl
 have hlo:(flat encB (m.take o)).length=o * 3:=by rw [flat_len,hz,List.length_take];congr 1;omega
 have h1:=splice_mid (flat encB z) (flat encB (m.take o)) (flat encB ((m.drop o).take z.length)) (flat encB (m.drop (o+z.length))) (by rw [flat_len,flat_len,List.length_take,List.length_drop];congr 1;omega)
 rw [← e,← flat_app,← flat_app,hlo] at h1
 have hle:o * 3+z.length * 3≤m.length * 3:=by omega
 rw [store_eq,hg]
 show stQ base id (some ⟨.cells (flat encB m) 38 true false,0⟩) 0 (o * 3) (flat encB z) _=_
 rw [stQ_ok (by rw [flat_len,flat_len,hz];exact hle) (List.all_eq_true.2 fun x hx=>by
  obtain ⟨w,_,hw⟩:=List.mem_flatMap.1 hx
  exact List.all_eq_true.1 (encB_sc w) x hw) hb,h1]
 rfl
theorem slB_to {n k:Nat} {hi:Int} (h0:0≤hi) (h1:hi≤k):sliceA prog 27 (.slice (some ⟨id,0,0⟩) n k) none (some (.int .i64 hi)) none=some (.slice (some ⟨id,0,0⟩) hi.toNat k):=by
 have e1:hi≤(k:Int):=h1
 simp [sliceA,Fc.ar27,Fc.el27,optB,boundA,ARef.add,h0,e1]
theorem slB_from {n k:Nat} {lo:Int} (h0:0≤lo) (h1:lo≤n) (h2:n≤k):sliceA prog 27 (.slice (some ⟨id,0,0⟩) n k) (some (.int .i64 lo)) none none=some (.slice (some ⟨id,0,lo.toNat * 3⟩) (n-lo.toNat) (k-lo.toNat)):=by
 have e1:lo≤(n:Int):=h1
 simp [sliceA,Fc.ar27,Fc.el27,optB,boundA,ARef.add,h0,e1]
theorem slB_two {n k:Nat} {lo hi:Int} (h0:0≤lo) (h1:lo≤hi) (h2:hi≤k):sliceA prog 27 (.slice (some ⟨id,0,0⟩) n k) (some (.int .i64 lo)) (some (.int .i64 hi)) none=some (.slice (some ⟨id,0,lo.toNat * 3⟩) (hi.toNat-lo.toNat) (k-lo.toNat)):=by
 simp only [sliceA,Fc.ar27,Fc.el27,optB,boundI (show 0≤hi by omega) h2,boundI h0 (show lo≤(hi.toNat:Int) by omega)]
 simp [ARef.add]
theorem slB_three {n k:Nat} {lo hi mx:Int} (h0:0≤lo) (h1:lo≤hi) (h2:hi≤mx) (h3:mx≤k):∃ v,sliceA prog 27 (.slice (some ⟨id,0,0⟩) n k) (some (.int .i64 lo)) (some (.int .i64 hi)) (some (.int .i64 mx))=some v:=by
 simp only [sliceA,Fc.ar27,Fc.el27,optB,boundI (show 0≤mx by omega) h3,boundI (show 0≤hi by omega) (show hi≤(mx.toNat:Int) by omega),boundI h0 (show lo≤(hi.toNat:Int) by omega)]
 exact ⟨_,rfl⟩
def brk0:Brk:=(0,0,0)
theorem run_deleteB {l:List Brk} {i:Nat} (hg:h[id]?=some (bkB l)) (hb:base≤id) (hi:i<l.length) (hl:l.length≤1000) :
  Ret prog raw base (.fn 17 [] []) [.slice (some ⟨id,0,0⟩) l.length l.length,.int .i64 (i:Int),.int .i64 ((i:Int)+1)] h (fun w H=>w=.slice (some ⟨id,0,0⟩) (l.length-1) l.length∧H=h.set id (bkB (l.eraseIdx i++[brk0]))):=by
 obtain ⟨n,en⟩:∃ n,l.length=n:=⟨_,rfl⟩
 rw [en] at hi hl ⊢
 have hid:=lt_of_get hg
 obtain ⟨v3,e3⟩:=slB_three (id:=id) (n:=n) (k:=n) (lo:=(i:Int)) (hi:=(i:Int)+1) (mx:=(n:Int)) (by omega) (by omega) (by omega) (by omega)
 have t1:((i:Int)=(i:Int)+1)=False:=eq_false (by omega)
 have s1:=slB_to (id:=id) (n:=n) (k:=n) (hi:=(i:Int)) (by omega) (by omega)
 have s2:=slB_from (id:=id) (n:=n) (k:=n) (lo:=(i:Int)+1) (by omega) (by omega) (by omega)
 rw [Int.toNat_natCast] at s1
 rw [show ((i:Int)+1).toNat=i+1 by omega] at s2
 obtain ⟨m,em⟩:∃ m,m=l.eraseIdx i++l.drop (n-1):=⟨_,rfl⟩
 have hel:(l.eraseIdx i).length=n-1:=by rw [List.length_eraseIdx,if_pos (by omega)];omega
 have hml:m.length=n:=by rw [em,List.length_append,hel,List.length_drop];omega
 have hld:(l.drop (i+1)).length=n-(i+1):=by rw [List.length_drop,en]
 have hRd:Rows encB h (.slice (some ⟨id,0,(i+1) * 3⟩) (n-(i+1)) (n-(i+1))) (l.drop (i+1)):=by
  refine ⟨by omega,.inr (.inr ⟨⟨id,0,(i+1) * 3⟩,n-(i+1),flat encB l,38,true,false,by rw [hld],hg,?_,?_,by omega⟩)⟩
  ·have e:flat encB l=flat encB (l.take (i+1))++flat encB (l.drop (i+1)):=by rw [← flat_app,List.take_append_drop]
   have hlo:(flat encB (l.take (i+1))).length=(i+1) * 3:=by
    rw [flat_len,List.length_take,Nat.min_eq_left (by omega)];rfl
   show ((flat encB l).drop ((i+1) * 3)).take _=_
   rw [e,← hlo,List.drop_left,List.take_of_length_le (by rw [flat_len];exact Nat.le_refl _)]
  ·rw [hld,flat_len,show encB.z=3 from rfl];simp only;omega
 have hfn:=hRd.firstN
 rw [hld,show encB.z=3 from rfl] at hfn
 have hap:appendA prog base h 27 (.slice (some ⟨id,0,0⟩) i n) (.slice (some ⟨id,0,(i+1) * 3⟩) (n-(i+1)) (n-(i+1)))=some (.slice (some ⟨id,0,0⟩) (n-1) n,h.set id (bkB m)):=by
  have hsc:(flat encB (l.drop (i+1))).all AVal.scalar=true:=List.all_eq_true.2 fun x hx=>by
   obtain ⟨w,_,hw⟩:=List.mem_flatMap.1 hx
   exact List.all_eq_true.1 (encB_sc w) x hw
  simp only [appendA,Fc.el27,lenA,hfn,hsc,if_true]
  rw [if_pos (by omega)]
  have:(ARef.mk id 0 0).add (i * 3)=⟨id,0,i * 3⟩:=by simp [ARef.add]
  rw [this,stB hg hb (by rw [hld];omega)]
  simp only [hld]
  rw [show i+(n-(i+1))=n-1 by omega,← List.eraseIdx_eq_take_drop_succ,em]
 obtain ⟨G,eG⟩:∃ G,G=h.set id (bkB m):=⟨_,rfl⟩
 rw [← eG] at hap
 have gG:G[id]?=some (bkB m):=by rw [eG,List.getElem?_set_self hid]
 have s3:=slB_two (id:=id) (n:=n-1) (k:=n) (lo:=((n-1:Nat):Int)) (hi:=(n:Int)) (by omega) (by omega) (by omega)
 rw [Int.toNat_natCast,Int.toNat_natCast,show n-(n-1)=1 by omega] at s3
 have hcl:clearA prog base G 27 (.slice (some ⟨id,0,(n-1) * 3⟩) 1 1)=some (.tuple [],G.set id (bkB (l.eraseIdx i++[brk0]))):=by
  have hs:=stB (z:=[brk0]) (o:=n-1) gG hb (by simp;omega)
  have e:m.take (n-1)++[brk0]++m.drop (n-1+[brk0].length)=l.eraseIdx i++[brk0]:=by
   rw [em,List.take_left' hel,List.drop_of_length_le (by simp [hel];omega),List.append_nil]
  rw [e] at hs
  have hr:repCells [AVal.int .i64 0,.int .i64 0,.int .i64 0] (0+1)=flat encB [brk0]:=rfl
  simp only [clearA,Fc.el27,hr,hs]
 refine ret_raw func17 rfl (by kernel_rfl) ?_
 have hsp:=@Nat.succ_ne_zero;repeat' (first|simp (disch:=first|exact dqb|fail) only [go_sem,↓reduceIte,hsp,e3,t1,s1,s2,hap,s3,hcl]|refine WP_drw ?_|refine cnd_intro (fun hsp=>?_) fun hsp=>?_)
 rw [eG,List.set_set]
end
end Flt
end Go.AM
namespace Go.AM
open Go.Proofs.Tryz
attribute [-go_sem] put_ne put_same
attribute [local go_sem ↓] put_if
abbrev rrbB (L:Int) (fv wv:AVal):ABlk:=⟨.cells [.int .i64 L,fv,wv] 123 false false,0⟩
abbrev rwtB (w:Wnt):ABlk:=⟨.cells [.int .i64 w.lg,.int .i64 w.pr,.int .i64 w.off,.int .i64 w.fl,.int .i64 w.jn] 189 false false,0⟩
section
variable {h:Heap} {wv:AVal} {W:List Wnt} {i:Nat} {w:Wnt}
end
theorem take_succD {l:List Int} {i:Nat} (hi:i<l.length):l.take (i+1)=l.take i++[l.getD i 0]:=by
 rw [List.take_add_one,getD_some (d:=0) hi];rfl
end Go.AM
namespace Go.AM
def flC (bad:Nat→Bool) (j:Bool) (l:List Int) (i:Nat):Bool:=(!j && bad (l.getD i 0).toNat) || (j && (decide (0<i) && decide (l.getD i 0 > l.getD (i-1) 0+1)))
def flN (bad:Nat→Bool) (j:Bool) (l:List Int):Nat→Int
 | 0=>0
 | n+1=>flN bad j l n+if flC bad j l n=true then 1 else 0
section
variable {bad:Nat→Bool} {j:Bool} {lg:Int}
end
end Go.AM
namespace Go.AM
open Go.Proofs.Tryz
attribute [-go_sem] put_ne put_same
attribute [local go_sem ↓] put_if
abbrev rctB (c:Ct):ABlk:=⟨.cells [.int .i64 c.w,.int .i64 c.f,.bool c.j] 129 false false,0⟩
end Go.AM
namespace Go.AM
open Go.Proofs.Tryz
attribute [-go_sem] put_ne put_same
attribute [local go_sem ↓] put_if
def allV:Option (Int × Int)→AVal
 | some e=>.tuple [.int .i64 e.1,.int .i64 e.2,.bool true]
 | none=>.tuple [.int .i64 0,.int .i64 0,.bool false]
end Go.AM
namespace Go.AM
open Go.Proofs.Tryz
attribute [-go_sem] put_ne put_same
attribute [local go_sem ↓] put_if
end Go.AM
namespace Go.AM
open Go.Proofs.Tryz
attribute [-go_sem] put_ne put_same
attribute [local go_sem ↓] put_if
end Go.AM
namespace Go.AM
open Go.Proofs.Tryz
attribute [-go_sem] put_ne put_same
attribute [local go_sem ↓] put_if
end Go.AM
namespace Go.AM
open Go.Proofs.Tryz
attribute [-go_sem] put_ne put_same
attribute [local go_sem ↓] put_if
section
variable {h:Heap} {pv:AVal} {P:List Ct} {i:Nat} {c:Ct}
end
end Go.AM
namespace Go.AM
open Go.Proofs.Tryz
attribute [-go_sem] put_ne put_same
attribute [local go_sem ↓] put_if
def encO:Enc Bool:=⟨1,fun b=>[.bool b],fun _=>rfl,by decide⟩
theorem encO_sc:∀ y,(encO.cells y).all AVal.scalar=true:=fun _=>rfl
theorem flat_encO:∀ (l:List Bool),flat encO l=l.map AVal.bool
 | []=>rfl
 | x :: l=>by
  have:=flat_encO l
  simp only [flat,List.flatMap_cons,List.map_cons] at this ⊢
  rw [this];rfl
def mrk (n:Nat) (S:List Int):List Bool:=(List.range n).map fun k:Nat=>decide ((k:Int) ∈ S)
theorem mrk_len {n:Nat} {S:List Int}:(mrk n S).length=n:=by simp [mrk]
theorem mrk_at {n k:Nat} {S:List Int} (hk:k<n):(mrk n S)[k]?=some (decide ((k:Int) ∈ S)):=by
 unfold mrk
 rw [List.getElem?_map,List.getElem?_range hk];rfl
theorem mrk_set {n k:Nat} {S:List Int}:(mrk n S).set k true=mrk n (S++[(k:Int)]):=by
 refine List.ext_getElem? fun i=>?_
 by_cases hi:i<n
 ·rw [mrk_at hi]
  by_cases e:k=i
  ·subst e
   rw [List.getElem?_set_self (by rw [mrk_len];exact hi)]
   simp
  ·rw [List.getElem?_set_ne e,mrk_at hi]
   congr 1
   refine decide_eq_decide.2 ⟨fun q=>by simp [q],fun q=>?_⟩
   rcases List.mem_append.1 q with q|q
   ·exact q
   ·simp at q;omega
 ·rw [List.getElem?_eq_none (by rw [List.length_set,mrk_len];omega),List.getElem?_eq_none (by rw [mrk_len];omega)]
theorem mrk_nil {n:Nat}:mrk n []=List.replicate n false:=by
 refine List.ext_getElem? fun i=>?_
 by_cases hi:i<n
 ·rw [mrk_at hi,List.getElem?_replicate,if_pos hi];rfl
 ·rw [List.getElem?_eq_none (by rw [mrk_len];omega),List.getElem?_eq_none (by simp;omega)]
abbrev mkB (n:Nat) (S:List Int):ABlk:=rowE encO 4 (mrk n S) 0
theorem ld_mrk {K:Heap} {id n k:Nat} {S:List Int} (hg:K[id]?=some (mkB n S)) (hk:k<n):loadP prog K 4 (.ptr (some ⟨id,0,k⟩))=some (.bool (decide ((k:Int) ∈ S))):=by
 rw [load_eq,Fc.ty4,hg,mkB,rowE,ldB_cell,flat_encO,List.getElem?_map,mrk_at hk]
 rfl
theorem st_mrk {base id n k:Nat} {S:List Int} {F:ABlk→Heap} (hk:k<n) (hb:base≤id):stQ base id (some (mkB n S)) 0 k [.bool true] F=some (F (mkB n (S++[(k:Int)]))):=by
 have:=stQ_rowE (E:=encO) (e:=4) (l:=mrk n S) (i:=k) (base:=base) (id:=id) (ver:=0) (x:=true) (K:=F) (by rw [mrk_len];exact hk) (encO_sc true) hb
 rw [mrk_set] at this
 have e1:k * encO.z=k:=Nat.mul_one k
 rw [e1] at this
 exact this
structure Rch (t:List Int) (n u m:Nat):Prop where
 le:u≤m∧m≤n
 fr:∀ y:Nat,u≤y→y<m→(y:Int) ∉ t
 pr:u<m→0<u∧(u:Int)-1 ∉ t
 ed:m<n→(m:Int) ∈ t ∨ (m=u∧(u=0 ∨ (u:Int)-1 ∈ t))
end Go.AM
namespace Go.AM
open Go.Proofs.Tryz
attribute [-go_sem] put_ne put_same
attribute [local go_sem ↓] put_if
namespace Flt
theorem thrLen2 {each ph:Int} {a:Nat}:∀ n,(thr each ph a n).length≤n
 | 0=>by simp [thr]
 | n+1=>by
  have:=thrLen2 (each:=each) (ph:=ph) (a:=a) n
  rw [thr,List.length_append]
  split<;>simp<;>omega
theorem spo_len {L:Lom} {b:Brk} (hr:∀ p ∈ L.ps,p.rib.length≤1000) (hb:b.2.2+1-b.2.1≤100):(spo L b).length≤100000:=by
 have h1:(prtOf L b).rib.length≤1000:=by
  unfold prtOf
  by_cases h:b.1.toNat<L.ps.length
  ·exact hr _ (List.mem_of_getElem? (getD_some h))
  ·rw [List.getD_eq_getElem?_getD,List.getElem?_eq_none (by omega)];simp [prt0]
 have h2:∀ l:List Int,(l.flatMap fun r=>(thr (prtOf L b).each (prtOf L b).ph b.2.1.toNat (b.2.2+1-b.2.1).toNat).map fun t=>(r,t)).length≤l.length * 100:=fun l=>by
  induction l with
  | nil=>simp
  | cons x l ih =>
   have:=thrLen2 (each:=(prtOf L b).each) (ph:=(prtOf L b).ph) (a:=b.2.1.toNat) (b.2.2+1-b.2.1).toNat
   rw [List.flatMap_cons,List.length_append,List.length_map,List.length_cons]
   omega
 have:=h2 (prtOf L b).rib
 have e:spo L b=(prtOf L b).rib.flatMap fun r=>(thr (prtOf L b).each (prtOf L b).ph b.2.1.toNat (b.2.2+1-b.2.1).toNat).map fun t=>(r,t):=rfl
 rw [e]
 omega
theorem brk_ok {L:Lom} {b:Brk} (h:brkOk L b) (hc:chkM L=0):splM L b=(spo L b,0):=by
 obtain ⟨h1,h2,h3,h4,h5⟩:=h
 have:brkM L b=0:=by
  unfold brkM
  rw [if_neg (by omega),if_neg (by omega)]
 unfold splM
 rw [if_neg (by rw [hc];simp),if_neg (by rw [this];simp)]
 rfl
theorem mrk_same {n k:Nat} {S:List Int} (h:(k:Int) ∉ S):(mrk n S).set k false=mrk n S:=by
 refine List.ext_getElem? fun i=>?_
 by_cases hi:i<n
 ·rw [mrk_at hi]
  by_cases e:k=i
  ·subst e
   rw [List.getElem?_set_self (by rw [mrk_len];exact hi),decide_eq_false h]
  ·rw [List.getElem?_set_ne e,mrk_at hi]
 ·rw [List.getElem?_eq_none (by rw [List.length_set,mrk_len];omega),List.getElem?_eq_none (by rw [mrk_len];omega)]
theorem st_mrkF {base id n k:Nat} {S:List Int} {F:ABlk→Heap} (hk:k<n) (hb:base≤id) (h:(k:Int) ∉ S):stQ base id (some (mkB n S)) 0 k [.bool false] F=some (F (mkB n S)):=by
 have:=stQ_rowE (E:=encO) (e:=4) (l:=mrk n S) (i:=k) (base:=base) (id:=id) (ver:=0) (x:=false) (K:=F) (by rw [mrk_len];exact hk) (encO_sc false) hb
 rw [mrk_same h] at this
 have e:k * encO.z=k:=Nat.mul_one k
 rw [e] at this
 exact this
def mkF (S:List Int) (u:Nat):List Int:=((List.range u).map fun k:Nat=>(k:Int)).filter fun y=>decide (y ∈ S)
theorem mkF_succ {S:List Int} {u:Nat}:mkF S (u+1)=mkF S u++if (u:Int) ∈ S then [(u:Int)] else []:=by
 unfold mkF
 rw [List.range_succ,List.map_append,List.filter_append]
 congr 1
 by_cases h:(u:Int) ∈ S
 ·rw [if_pos h];simp [h]
 ·rw [if_neg h];simp [h]
theorem mkF_len {S:List Int} {u:Nat}:(mkF S u).length≤u:=by
 have:=List.length_filter_le (fun y:Int=>decide (y ∈ S)) ((List.range u).map fun k:Nat=>(k:Int))
 unfold mkF
 simp only [List.length_map,List.length_range] at this
 exact this
theorem mkF_mem {S:List Int} {u:Nat} {y:Int}:y ∈ mkF S u ↔ (0≤y∧y<(u:Int))∧y ∈ S:=by
 unfold mkF
 rw [List.mem_filter,decide_eq_true_eq,List.mem_map]
 constructor
 ·rintro ⟨⟨k,hk,rfl⟩,h⟩
  have:=List.mem_range.1 hk
  exact ⟨by omega,h⟩
 ·rintro ⟨h1,h2⟩
  exact ⟨⟨y.toNat,List.mem_range.2 (by omega),by omega⟩,h2⟩
theorem mkF_s {S:List Int} {u:Nat}:(mkF S u).Pairwise (·<·):=by
 unfold mkF
 refine List.Pairwise.filter _ ?_
 rw [List.pairwise_map]
 exact List.pairwise_lt_range.imp fun h=>by omega
theorem take_mem {α:Type} {l:List α} {j:Nat} {x:α} (h:l[j]?=some x) {P:α→Prop}:(∃ y ∈ l.take (j+1),P y) ↔ (∃ y ∈ l.take j,P y) ∨ P x:=by
 rw [List.take_add_one,h]
 constructor
 ·rintro ⟨y,hy,hp⟩
  rcases List.mem_append.1 hy with q|q
  ·exact .inl ⟨y,q,hp⟩
  ·simp at q;subst q;exact .inr hp
 ·rintro (⟨y,hy,hp⟩|hp)
  ·exact ⟨y,List.mem_append_left _ hy,hp⟩
  ·exact ⟨x,List.mem_append_right _ (by simp),hp⟩
def intW1 (w:Int):ABlk:=⟨.cells [.int .i64 w] 3 false false,0⟩
set_option maxRecDepth 100000 in
set_option maxHeartbeats 4000000 in
theorem run_ribbon1 {base lid wid:Nat} {h:Heap} {L:Lom} {pv sv bv:AVal} {t:List Brk} {w:Int} (hb:base≤h.length) (gl:h[lid]?=some (lmB L.R L.T pv sv)) (gw:h[wid]?=some (intW1 w))
  (hL:LomAt h (lomV L.R L.T pv sv) L) (hrs:∀ p ∈ L.ps,Small p.rib∧p.rib.length≤1000) (hc:chkM L=0) (hB:Rows encB h bv t) (ht:∀ b ∈ t,brkOk L b) :
  Ret prog raw base (.fn 7 [] [.ptr (some ⟨lid,0,0⟩),.ptr (some ⟨wid,0,0⟩)]) [bv] h (fun z H=>Ext h H∧∃ fv F,z=.tuple [.agg [.int .i64 L.T,fv,.slice none 0 0],.bool true]∧Own encI 3 h.length H fv F∧F.Pairwise (·<·)∧(∀ y,y ∈ F ↔ (0≤y∧y<L.T)∧∃ b ∈ t,(w,y) ∈ spo L b)∧(F.length:Int)≤L.T):=by
 obtain ⟨k1,k2,k3,k4,k5,k6⟩:=chkM_ok hc
 have obv:=hB.one
 have hlid:=lt_of_get gl
 have hwid:=lt_of_get gw
 have htl:=hB.1
 have hpo:One pv∧One sv:=by
  obtain ⟨p',s',e,hP,hS⟩:=hL
  simp only [lomV,AVal.agg.injEq,List.cons.injEq,and_true] at e
  obtain ⟨-,-,rfl,rfl⟩:=e
  exact ⟨hP.one,hS.one⟩
 obtain ⟨opv,osv⟩:=hpo
 obtain ⟨n,en⟩:=Int.eq_ofNat_of_zero_le (show 0≤L.T by omega)
 obtain ⟨G0,eG0⟩:∃ G0,G0=h++[ribB 0 (.slice none 0 0) (.slice none 0 0)]++[ribB L.T (.slice none 0 0) (.slice none 0 0)]:=⟨_,rfl⟩
 have x0:Ext h G0:=by rw [eG0];exact .app (.app .refl)
 have gA:G0[h.length]?=some (ribB 0 (.slice none 0 0) (.slice none 0 0)):=by rw [eG0];exact get_app (get_eq rfl)
 have gB:G0[h.length+1]?=some (ribB L.T (.slice none 0 0) (.slice none 0 0)):=by rw [eG0];exact get_eq (by simp)
 have l0:G0.length=h.length+2:=by rw [eG0];simp
 have g0l:=x0.get gl
 obtain ⟨G,eG⟩:∃ G,G=G0++[mkB n []]:=⟨_,rfl⟩
 have xG:Ext G0 G:=by rw [eG];exact .app .refl
 have gm:G[G0.length]?=some (mkB n []):=by rw [eG];exact get_eq rfl
 have lG:G.length=G0.length+1:=by rw [eG];simp
 have mk:makeSliceA prog G0 36 (.int .i64 L.T) (.int .i64 L.T)=some (.slice (some ⟨G0.length,0,0⟩) n n,G):=by
  rw [en,make_full Fc.el36 (by omega) (by omega),eG,mkB,rowE,mrk_nil,← rep_flat]
  rfl
 have ak:∀ k:Nat,k<n→indexAddrA prog 36 (.slice (some ⟨G0.length,0,0⟩) n n) (.int .i64 (k:Int))=some (.ptr (some ⟨G0.length,0,k⟩)):=fun k hk=>by
  rw [adr_sl Fc.el36 Fc.ar36 (by omega) (by omega),Int.toNat_natCast,Nat.mul_one,Nat.zero_add]
 have hnB:∀ {K},Ext h K→lenOpA prog K 27 bv=some (.int .i64 (t.length:Int)):=fun e=>(hB.ext e).len Fc.el27
 have gl':=gl
 have hlA:(h++[ribB 0 (.slice none 0 0) (.slice none 0 0)])[lid]?=some (lmB L.R L.T pv sv):=get_app gl
 unfold ribB at eG0 hlA
 unfold lmB at gl' g0l hlA
 refine ret_raw func7 rfl (by kernel_rfl) ?_
 have hsp:=@Nat.succ_ne_zero;repeat' (first|simp (disch:=first|exact dqb|fail) only [go_sem,↓reduceIte,hsp,gl',hlA,← eG0,g0l,mk,hnB x0,hnB (x0.trans xG)]|refine WP_drw ?_|refine cnd_intro (fun hsp=>?_) fun hsp=>?_)
 refine WP_count [(5,5),(9,13),(24,70)] 0 t.length (Nat.zero_le _) (fun _ i fr K=>fr 24=.int .i64 (i:Int)∧Ext G0 K∧G0.length<K.length∧∃ S,K[G0.length]?=some (mkB n S)∧∀ y,y ∈ S ↔ ∃ b ∈ t.take i,(w,y) ∈ spo L b) ?_ ?_ ?_
 ·exact ⟨by (simp (disch:=first|exact dqb|fail) only [go_sem,↓reduceIte,Int.natCast_zero];first|done|rfl),xG,by omega,[],gm,fun y=>by simp⟩
 ·rintro i fr K hi0 hi hAg ⟨q24,xK,lK,S,gK,hS⟩
  have q1:=hAg 1 rfl
  have q2:=hAg 2 rfl
  have q4:=hAg 4 rfl
  have q6:=hAg 6 rfl
  have q7:=hAg 7 rfl
  have q22:=hAg 22 rfl
  have q23:=hAg 23 rfl
  try simp (disch:=first|exact dqb|fail) only [go_sem,↓reduceIte] at q1 q2 q4 q6 q7 q22 q23
  have hlt:((i:Int)<(t.length:Int))=True:=eq_true (by omega)
  have xhK:=x0.trans xK
  obtain ⟨b,eb⟩:∃ b,b=t[i]:=⟨_,rfl⟩
  have hx:t[i]?=some b:=by rw [eb];exact List.getElem?_eq_getElem hi
  have hbk:=ht b (List.mem_of_getElem? hx)
  have a1:=(hB.ext xhK).addr (P:=prog) (i:=(i:Int)) Fc.el27 Fc.ar27 (by omega) (by omega)
  have b1:loadP prog K 38 (elAdr bv encB.z i 0)=some (.agg [.int .i64 b.1,.int .i64 b.2.1,.int .i64 b.2.2]):=(hB.ext xhK).load (P:=prog) Fc.ty38 hx
  rw [Int.toNat_natCast] at a1
  obtain ⟨K1,eK1⟩:∃ K1,K1=K++[(⟨.cells [.int .i64 b.1,.int .i64 b.2.1,.int .i64 b.2.2] 38 false false,0⟩:ABlk)]:=⟨_,rfl⟩
  have xK1:Ext K K1:=by rw [eK1];exact .app .refl
  have gb1:K1[K.length]?=some ⟨.cells [.int .i64 b.1,.int .i64 b.2.1,.int .i64 b.2.2] 38 false false,0⟩:=by rw [eK1];exact get_eq rfl
  have lK1:K1.length=K.length+1:=by rw [eK1];simp
  have xh1:=xhK.trans xK1
  obtain ⟨_,H2,e2,x2,zv,rfl,oS⟩:=run_spoils (base:=base) (h:=K1) (b:=b) (by omega) (hL.ext xh1) (fun p hp=>(hrs p hp).1) (by omega) (by omega) (fun _ _=>Int.le_refl _) (fun p hp=>(hrs p hp).2)
  rw [brk_ok hbk hc] at e2 oS
  simp only [encB] at e2
  dsimp only at oS
  obtain ⟨b1k,b2k,b3k,b4k,b5k⟩:=id hbk
  have hsl:=spo_len (L:=L) (b:=b) (fun p hp=>(hrs p hp).2) (by omega)
  have hsm:∀ x ∈ spo L b,0≤x.2∧x.2<L.T:=fun x hx=>by
   have:=(spo_mem b3k (by omega)).1 hx
   omega
  obtain ⟨l,el⟩:∃ l,l=spo L b:=⟨_,rfl⟩
  rw [← el] at oS hsl hsm
  have ozv:=oS.one
  have l2:=x2.len
  have gK2:=(xK1.trans x2).get gK
  have gl1:=(xh1).get gl
  have hln:lenOpA prog H2 39 zv=some (.int .i64 (l.length:Int)):=(oS.rows (by omega)).len Fc.el39
  unfold lmB at gl1
  unfold lomV at e2
  have hsp:=@Nat.succ_ne_zero;repeat' (first|simp (disch:=first|exact dqb|fail) only [go_sem,↓reduceIte,hsp,q1,q2,q4,q6,q7,q22,q23,q24,hlt,a1,b1,← eK1,gl1,gb1,e2,hln]|refine WP_drw ?_|refine cnd_intro (fun hsp=>?_) fun hsp=>?_)
  refine WP_count [(5,5),(13,13),(39,69)] 0 l.length (Nat.zero_le _) (fun _ j fr X=>fr 39=.int .i64 (j:Int)∧Ext G0 X∧G0.length<X.length∧Own encT 44 K1.length X zv l∧K1.length≤X.length∧∃ S',X[G0.length]?=some (mkB n S')∧∀ y,y ∈ S' ↔ (∃ b ∈ t.take i,(w,y) ∈ spo L b) ∨ ∃ x ∈ l.take j,x=(w,y)) ?_ ?_ ?_
  ·exact ⟨by (simp (disch:=first|exact dqb|fail) only [go_sem,↓reduceIte,Int.natCast_zero];first|done|rfl),(xK.trans xK1).trans x2,by omega,oS,by omega,S,gK2,fun y=>by rw [hS y];simp⟩
  ·rintro j fr2 X hj0 hj hA2 ⟨d39,xX,lX,oX,lKX,S',gX,hS'⟩
   have d1:=hA2 1 rfl
   have d2:=hA2 2 rfl
   have d4:=hA2 4 rfl
   have d6:=hA2 6 rfl
   have d7:=hA2 7 rfl
   have d22:=hA2 22 rfl
   have d23:=hA2 23 rfl
   have d24:=hA2 24 rfl
   have d37:=hA2 37 rfl
   have d38:=hA2 38 rfl
   try simp (disch:=first|exact dqb|fail) only [go_sem,↓reduceIte,q1,q2,q4,q6,q7,q22,q23,q24] at d1 d2 d4 d6 d7 d22 d23 d24 d37 d38
   have hlt2:((j:Int)<(l.length:Int))=True:=eq_true (by omega)
   obtain ⟨s,es⟩:∃ s,s=l[j]:=⟨_,rfl⟩
   have hxs:l[j]?=some s:=by rw [es];exact List.getElem?_eq_getElem hj
   have rX:=oX.rows (by omega)
   have a2:=rX.addr (P:=prog) (i:=(j:Int)) Fc.el39 Fc.ar39 (by omega) (by omega)
   have b2:loadP prog X 44 (elAdr zv encT.z j 0)=some (.agg [.int .i64 s.1,.int .i64 s.2]):=rX.load (P:=prog) Fc.ty44 hxs
   rw [Int.toNat_natCast] at a2
   obtain ⟨h1,h2⟩:=hsm s (List.mem_of_getElem? hxs)
   obtain ⟨y,ey⟩:=Int.eq_ofNat_of_zero_le h1
   obtain ⟨r,er⟩:∃ r,r=s.1:=⟨_,rfl⟩
   have ess:s=(r,(y:Int)):=by rw [er,← ey]
   rw [ey] at h1 h2 b2
   rw [← er] at b2
   have hyn:y<n:=by omega
   have t1:((y:Int)<0)=False:=eq_false (by omega)
   have t2:((y:Int) ≥ L.T)=False:=eq_false (by omega)
   obtain ⟨X1,eX1⟩:∃ X1,X1=X++[(⟨.cells [.int .i64 r,.int .i64 (y:Int)] 44 false false,0⟩:ABlk)]:=⟨_,rfl⟩
   have xX1:Ext X X1:=by rw [eX1];exact .app .refl
   have gs1:X1[X.length]?=some ⟨.cells [.int .i64 r,.int .i64 (y:Int)] 44 false false,0⟩:=by rw [eX1];exact get_eq rfl
   have lX1:X1.length=X.length+1:=by rw [eX1];simp
   have gX1:=xX1.get gX
   have glX:=((x0.trans xX).trans xX1).get gl
   have gwX:=((x0.trans xX).trans xX1).get gw
   have aky:=ak y hyn
   have ly:=ld_mrk gX1 hyn
   have oX1:=oX.ext xX1
   have nxt:∀ S'':List Int,(∀ z,z ∈ S'' ↔ z ∈ S' ∨ (r=w∧z=(y:Int)))→∀ z,z ∈ S'' ↔ (∃ b ∈ t.take i,(w,z) ∈ spo L b) ∨ ∃ x ∈ l.take (j+1),x=(w,z):=fun S'' hz z=>by
    rw [hz z,hS' z,take_mem hxs,ess,Prod.mk.injEq,or_assoc]
    constructor
    ·rintro (q|q|⟨q1,q2⟩)
     ·exact .inl q
     ·exact .inr (.inl q)
     ·exact .inr (.inr ⟨q1,q2.symm⟩)
    ·rintro (q|q|⟨q1,q2⟩)
     ·exact .inl q
     ·exact .inr (.inl q)
     ·exact .inr (.inr ⟨q1,q2.symm⟩)
   have fin:∀ S'':List Int,(∀ z,z ∈ S'' ↔ z ∈ S' ∨ (r=w∧z=(y:Int)))→Ext G0 (X1.set G0.length (mkB n S''))∧G0.length<X1.length∧Own encT 44 K1.length (X1.set G0.length (mkB n S'')) zv l∧K1.length≤X1.length∧∃ S3,some (mkB n S'')=some (mkB n S3)∧∀ z,z ∈ S3 ↔ (∃ b ∈ t.take i,(w,z) ∈ spo L b) ∨ ∃ x ∈ l.take (j+1),x=(w,z):=fun S'' hz =>
    ⟨(xX.trans xX1).set (Nat.le_refl _),by omega,oX1.set (by omega),by omega,S'',rfl,nxt S'' hz⟩
   unfold lmB at glX
   unfold intW1 at gwX
   clear es
   by_cases c:(y:Int) ∈ S'
   ·rw [decide_eq_true c] at ly
    have hst:=fun {F:ABlk→Heap}=>st_mrk (base:=base) (id:=G0.length) (n:=n) (k:=y) (S:=S') (F:=F) hyn (by omega)
    have hsp:=@Nat.succ_ne_zero;repeat' (first|simp (disch:=first|exact dqb|fail) only [go_sem,↓reduceIte,hsp,d1,d2,d4,d6,d7,d22,d23,d24,d37,d38,d39,q1,q2,q4,q6,q7,q22,q23,q24,hlt2,a2,b2,← eX1,gs1,glX,t1,t2,aky,ly,gX1,hst]|refine WP_drw ?_|refine cnd_intro (fun hsp=>?_) fun hsp=>?_)
    exact ⟨agq,by omega,fin (S'++[(y:Int)]) fun z=>by
     rw [List.mem_append,List.mem_singleton]
     constructor
     ·rintro (q|q)
      ·exact .inl q
      ·rw [q];exact .inl c
     ·rintro (q|⟨_,q⟩)
      ·exact .inl q
      ·exact .inr q⟩
   ·rw [decide_eq_false c] at ly
    by_cases cw:r=w
    ·have t3:(r=w)=True:=eq_true cw
     have hst:=fun {F:ABlk→Heap}=>st_mrk (base:=base) (id:=G0.length) (n:=n) (k:=y) (S:=S') (F:=F) hyn (by omega)
     have hsp:=@Nat.succ_ne_zero;repeat' (first|simp (disch:=first|exact dqb|fail) only [go_sem,↓reduceIte,hsp,d1,d2,d4,d6,d7,d22,d23,d24,d37,d38,d39,q1,q2,q4,q6,q7,q22,q23,q24,hlt2,a2,b2,← eX1,gs1,glX,t1,t2,aky,ly,gwX,t3,gX1,hst]|refine WP_drw ?_|refine cnd_intro (fun hsp=>?_) fun hsp=>?_)
     exact ⟨agq,by omega,fin (S'++[(y:Int)]) fun z=>by
      rw [List.mem_append,List.mem_singleton]
      constructor
      ·rintro (q|q)
       ·exact .inl q
       ·exact .inr ⟨cw,q⟩
      ·rintro (q|⟨_,q⟩)
       ·exact .inl q
       ·exact .inr q⟩
    ·have t3:(r=w)=False:=eq_false cw
     have hst:=fun {F:ABlk→Heap}=>st_mrkF (base:=base) (id:=G0.length) (n:=n) (k:=y) (S:=S') (F:=F) hyn (by omega) c
     have hsp:=@Nat.succ_ne_zero;repeat' (first|simp (disch:=first|exact dqb|fail) only [go_sem,↓reduceIte,hsp,d1,d2,d4,d6,d7,d22,d23,d24,d37,d38,d39,q1,q2,q4,q6,q7,q22,q23,q24,hlt2,a2,b2,← eX1,gs1,glX,t1,t2,aky,ly,gwX,t3,gX1,hst]|refine WP_drw ?_|refine cnd_intro (fun hsp=>?_) fun hsp=>?_)
     exact ⟨agq,by omega,fin S' fun z=>⟨fun q=>.inl q,fun q=>q.elim id fun q=>absurd q.1 cw⟩⟩
  ·rintro fr2 X hA2 ⟨d39,xX,lX,oX,lKX,S',gX,hS'⟩
   have d1:=hA2 1 rfl
   have d2:=hA2 2 rfl
   have d4:=hA2 4 rfl
   have d6:=hA2 6 rfl
   have d7:=hA2 7 rfl
   have d22:=hA2 22 rfl
   have d23:=hA2 23 rfl
   have d24:=hA2 24 rfl
   have d37:=hA2 37 rfl
   have d38:=hA2 38 rfl
   try simp (disch:=first|exact dqb|fail) only [go_sem,↓reduceIte,q1,q2,q4,q6,q7,q22,q23,q24] at d1 d2 d4 d6 d7 d22 d23 d24 d37 d38
   have hlt2:((l.length:Int)<(l.length:Int))=False:=eq_false (by omega)
   have hsp:=@Nat.succ_ne_zero;repeat' (first|simp (disch:=first|exact dqb|fail) only [go_sem,↓reduceIte,hsp,d1,d2,d4,d6,d7,d22,d23,d24,d37,d38,d39,q1,q2,q4,q6,q7,q22,q23,q24,hlt2]|refine WP_drw ?_|refine cnd_intro (fun hsp=>?_) fun hsp=>?_)
   refine ⟨agq,by omega,xX,lX,S',gX,fun y=>?_⟩
   rw [hS' y,List.take_length,take_mem hx,el]
   constructor
   ·rintro (q|⟨x,q,rfl⟩)
    ·exact .inl q
    ·exact .inr q
   ·rintro (q|q)
    ·exact .inl q
    ·exact .inr ⟨_,q,rfl⟩
 ·rintro fr K hAg ⟨q24,xK,lK,S,gK,hS⟩
  have q1:=hAg 1 rfl
  have q2:=hAg 2 rfl
  have q4:=hAg 4 rfl
  have q6:=hAg 6 rfl
  have q7:=hAg 7 rfl
  have q22:=hAg 22 rfl
  have q23:=hAg 23 rfl
  try simp (disch:=first|exact dqb|fail) only [go_sem,↓reduceIte] at q1 q2 q4 q6 q7 q22 q23
  have hlt:((t.length:Int)<(t.length:Int))=False:=eq_false (by omega)
  rw [List.take_length] at hS
  have gAK:=xK.get gA
  have gBK:=xK.get gB
  have hsp:=@Nat.succ_ne_zero;repeat' (first|simp (disch:=first|exact dqb|fail) only [go_sem,↓reduceIte,hsp,q1,q2,q4,q6,q7,q22,q23,q24,hlt]|refine WP_drw ?_|refine cnd_intro (fun hsp=>?_) fun hsp=>?_)
  refine WP_count [(14,15),(73,85)] 0 n (Nat.zero_le _) (fun _ u fr X=>fr 73=.int .i64 (u:Int)∧Ext h X∧X[h.length]?=some (ribB 0 (.slice none 0 0) (.slice none 0 0))∧X[G0.length]?=some (mkB n S)∧∃ fv,X[h.length+1]?=some (ribB L.T fv (.slice none 0 0))∧Own encI 3 (G0.length+1) X fv (mkF S u)) ?_ ?_ ?_
  ·exact ⟨by (simp (disch:=first|exact dqb|fail) only [go_sem,↓reduceIte,Int.natCast_zero];first|done|rfl),x0.trans xK,gAK,gK,.slice none 0 0,gBK,Own.nil⟩
  ·rintro u fr2 X hu0 hu hA2 ⟨d73,xX,gAX,gX,fv,gBX,oF⟩
   have d4:=hA2 4 rfl
   have d5:=hA2 5 rfl
   have d6:=hA2 6 rfl
   have d71:=hA2 71 rfl
   have d72:=hA2 72 rfl
   try simp (disch:=first|exact dqb|fail) only [go_sem,↓reduceIte,q4,q6] at d4 d5 d6 d71 d72
   have hltu:((u:Int)<(n:Int))=True:=eq_true (by omega)
   have ofv:=oF.one
   have aku:=ak u hu
   have lu:=ld_mrk gX hu
   have lX:=lt_of_get gX
   have hml:=mkF_len (S:=S) (u:=u)
   by_cases c:(u:Int) ∈ S
   ·rw [decide_eq_true c] at lu
    obtain ⟨w',K3,ea,oW,lW,eW2,oneW,kW⟩:=oF.append1X (P:=prog) (y:=(u:Int)) (a:=.int .i64 (u:Int)) (base:=base) (t:=32) rfl rfl Fc.el32 encI_sc (by omega) (by omega) (by omega)
    have kW:KeepO encI 3 X K3:=kW
    have gA3:=kW.box gAX
    have gB3:=kW.box gBX
    have gX3:K3[G0.length]?=some (mkB n S):=kW _ _ gX fun l' ver e=>by
     simp only [rowE,ABlk.mk.injEq,ABody.cells.injEq] at e
     exact absurd e.1.2.1 (by decide)
    have lX3:=lt_of_get gX3
    have eF:mkF S (u+1)=mkF S u++[(u:Int)]:=by rw [mkF_succ,if_pos c]
    rw [← eF] at oW
    have x3:=eW2 h (by omega) xX
    unfold ribB at gBX
    have hsp:=@Nat.succ_ne_zero;repeat' (first|simp (disch:=first|exact dqb|fail) only [go_sem,↓reduceIte,hsp,d4,d5,d6,d71,d72,d73,q1,q2,q4,q6,q7,q22,q23,q24,hltu,aku,lu,gBX,ea,gB3]|refine WP_drw ?_|refine cnd_intro (fun hsp=>?_) fun hsp=>?_)
    refine ⟨agq,by omega,x3.set (by omega),?_,?_,w',rfl,oW.setBox gB3⟩
    ·exact gA3
    ·exact gX3
   ·rw [decide_eq_false c] at lu
    have eF:mkF S (u+1)=mkF S u:=by rw [mkF_succ,if_neg c,List.append_nil]
    have hsp:=@Nat.succ_ne_zero;repeat' (first|simp (disch:=first|exact dqb|fail) only [go_sem,↓reduceIte,hsp,d4,d5,d6,d71,d72,d73,q1,q2,q4,q6,q7,q22,q23,q24,hltu,aku,lu]|refine WP_drw ?_|refine cnd_intro (fun hsp=>?_) fun hsp=>?_)
    exact ⟨agq,by omega,xX,gAX,gX,fv,gBX,by rw [eF];exact oF⟩
  ·rintro fr2 X hA2 ⟨d73,xX,gAX,gX,fv,gBX,oF⟩
   have d4:=hA2 4 rfl
   have d5:=hA2 5 rfl
   have d6:=hA2 6 rfl
   have d71:=hA2 71 rfl
   have d72:=hA2 72 rfl
   try simp (disch:=first|exact dqb|fail) only [go_sem,↓reduceIte,q4,q6] at d4 d5 d6 d71 d72
   have hltu:((n:Int)<(n:Int))=False:=eq_false (by omega)
   have ofv:=oF.one
   have lX:=lt_of_get gX
   have gAX':=gAX
   unfold ribB at gAX' gBX
   have hsp:=@Nat.succ_ne_zero;repeat' (first|simp (disch:=first|exact dqb|fail) only [go_sem,↓reduceIte,hsp,d4,d5,d6,d71,d72,d73,q1,q2,q4,q6,q7,q22,q23,q24,hltu,gBX,gAX']|refine WP_drw ?_|refine cnd_intro (fun hsp=>?_) fun hsp=>?_)
   refine ⟨xX.set (Nat.le_refl _),fv,mkF S n,rfl,(oF.setBox gAX).low (by omega),mkF_s,fun y=>?_,?_⟩
   ·rw [mkF_mem,hS y,en]
   ·have:=mkF_len (S:=S) (u:=n)
    omega
end Flt
end Go.AM
