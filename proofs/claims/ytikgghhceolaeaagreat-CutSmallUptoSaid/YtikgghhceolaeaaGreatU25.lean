/-
  Contracts: whether values hold (Holds), what they say (Bound).
-/
import Derived.Test.YtikgghhceolaeaaGreatU24
import Derived.Test.YtikgghhceolaeaaGreatU22
set_option linter.unusedSimpArgs false
set_option linter.unusedVariables false
namespace Go.AM
open Go.Proofs.Tryz
attribute [-go_sem] put_ne put_same
attribute [local go_sem ↓] put_if
noncomputable def hldB (R:Rib) (V:List Int):Bool:=@decide (Hld R V) (Classical.propDecidable _)
theorem hldB_iff {R:Rib} {V:List Int}:hldB R V=true ↔ Hld R V:=by
 unfold hldB
 exact @decide_eq_true_iff _ (Classical.propDecidable _)
theorem Hld.congr {R:Rib} (hR:RibOk R) {V U:List Int} (h:∀ i,i≤R.L.toNat→V.getD i 0=U.getD i 0) (a:Hld R V):Hld R U:=by
 refine ⟨fun x hx=>?_,fun x hx c hc=>?_,?_⟩
 ·rw [← h x (by omega),← h (x+1) (by omega)];exact a.up x hx
 ·have hb:=(cutL_b hR hx hc).1
  rw [← h x (by omega),← h c.2.1.toNat (by omega)];exact a.cut x hx c hc
 ·rw [← h R.L.toNat (by omega)];exact a.fin
theorem vld_ok {R:Rib} {l:List Int} (h:vldE R l=0):RibOk R∧(l.length:Int)=R.L+1∧∀ y ∈ l,-10000≤y∧y≤10000:=by
 unfold vldE at h
 by_cases c0:chkR R=0
 ·rw [if_neg (fun q=>q c0)] at h
  by_cases c1:(l.length:Int)=R.L+1
  ·rw [if_neg (fun q=>q c1)] at h
   by_cases c2:(l.all fun y=>decide (-10000≤y∧y≤10000))=true
   ·exact ⟨chkR_iff.1 c0,c1,fun y hy=>of_decide_eq_true (List.all_eq_true.1 c2 y hy)⟩
   ·rw [if_pos c2] at h;omega
  ·rw [if_pos c1] at h;omega
 ·rw [if_pos c0] at h;exact absurd h c0
theorem getD_b {l:List Int} {a b:Int} (h:∀ y ∈ l,a≤y∧y≤b) (h0:a≤0∧0≤b) (i:Nat):a≤l.getD i 0∧l.getD i 0≤b:=by
 by_cases c:i<l.length
 ·exact h _ (getD_mem' c)
 ·rw [List.getD_eq_getElem?_getD,List.getElem?_eq_none (by omega)];exact h0
theorem padV_b {l:List Int} (h:∀ y ∈ l,-10000≤y∧y≤10000) (i:Nat):-10000≤(padV l).getD i 0∧(padV l).getD i 0≤10000 :=
 getD_b (fun y hy=>by
  rcases List.mem_append.1 hy with q|q
  ·exact h y q
  ·have:=List.eq_of_mem_replicate q;omega) (by omega) i
theorem hld_pad {R:Rib} (hR:RibOk R) {l:List Int} (hl:(l.length:Int)=R.L+1):hldB R (padV l)=hldB R l:=by
 have hL:=hR.L
 have e:Hld R (padV l) ↔ Hld R l:=⟨fun a=>a.congr hR fun i hi=>padV_at (by omega),fun a=>a.congr hR fun i hi=>(padV_at (by omega)).symm⟩
 rcases Bool.eq_false_or_eq_true (hldB R l) with q|q
 ·rw [q];exact hldB_iff.2 (e.2 (hldB_iff.1 q))
 ·rw [q]
  cases z:hldB R (padV l) with
  | false=>rfl
  | true=>rw [hldB_iff.2 (e.1 (hldB_iff.1 z))] at q;exact absurd q (by simp)
noncomputable def hldE (R:Rib) (l:List Int):Bool:=decide (vldE R l=0) && hldB R l
noncomputable def bndE (R:Rib) (l:List Int):Int × Int:=if vldE R l ≠ 0 then (0,vldE R l) else if hldB R l=true then (l.getD 0 0,0) else (0,8)
set_option maxRecDepth 100000 in
set_option maxHeartbeats 4000000 in
theorem run_Holds {base:Nat} {h:Heap} {v lv:AVal} {R:Rib} {l:List Int} (hA:RibAt h v R) (hsm:R.F.length≤1048576) (hI:Ints h lv l) :
  callL prog raw base (.fn 77 [] []) [v,lv] h=some (.tuple [.bool (hldE R l),.int .i64 (vldE R l)],h):=by
 have hAe:=fun H (e:Ext h H)=>hA.ext e
 obtain ⟨fv,wv,rfl,hF,hW⟩:=hA
 have o1:=hF.one
 have o2:=hW.one
 have ol:=hI.one
 obtain ⟨G0,eG0⟩:∃ G0,G0=h++[ribB R.L fv wv]:=⟨_,rfl⟩
 have x0:Ext h G0:=by rw [eG0];exact .app .refl
 have g0:G0[h.length]?=some (ribB R.L fv wv):=by rw [eG0];exact get_eq rfl
 have l0:G0.length=h.length+1:=by rw [eG0];simp
 obtain ⟨_,H1,e1,x1,a,rfl,oa,hid⟩:=run_valued (base:=h.length) (h:=G0) (by omega) (hAe G0 x0) hsm (hI.ext x0)
 have l1:=x1.len
 have xx:=x0.trans x1
 have hz:zer61.length=61:=by decide
 have g1:(H1++[valBk zer61])[H1.length]?=some (valBk zer61):=get_eq rfl
 unfold ribB at eG0 g0
 refine callL_run func77 rfl rfl ?_
 by_cases c:vldE R l=0
 ·obtain ⟨hR,hll,hlb⟩:=vld_ok c
  have hL:=hR.L
  obtain ⟨id,rfl,hD⟩:=hid c
  have hpl:=padV_len (l:=l) (by omega)
  rw [if_pos c,c] at e1
  have stp:=stV61 (base:=h.length) (l:=padV l) g1 hpl hz
  rw [set_eq rfl] at stp
  obtain ⟨H2,eH2⟩:∃ H2,H2=H1++[valBk (padV l)]:=⟨_,rfl⟩
  have x2:Ext H1 H2:=by rw [eH2];exact .app .refl
  have q2:H2[H1.length]?=some (valBk (padV l)):=by rw [eH2];exact get_eq rfl
  rw [← eH2] at stp
  have ldp:=ldA61 (l:=padV l) (e:=106) (row:=false) (ro:=false) hpl
  have hh:=fun base=>run_holds (base:=base) (b:=hldB R (padV l)) (hD.ext x2) hR hpl (padV_b hlb) hldB_iff
  rw [hld_pad hR hll] at hh
  unfold valBk zer61 at stp
  unfold valBk at q2
  have re:hldE R l=hldB R l:=by unfold hldE;rw [decide_eq_true c];rfl
  rw [re,c]
  have hsp:=@Nat.succ_ne_zero;repeat' (first|simp (disch:=first|exact dq|fail) only [go_sem,↓reduceIte,hsp,← eG0,g0,e1,stp,eq_self,q2,ldp,hh]|refine WP_drw ?_|refine cnd_intro (fun hsp=>?_) fun hsp=>?_)
  exact fin_pl rfl rfl (xx.trans x2)
 ·rw [if_neg c] at e1
  have stz:=stV61 (base:=h.length) (l:=zer61) g1 hz hz
  rw [set_eq rfl] at stz
  obtain ⟨H2,eH2⟩:∃ H2,H2=H1++[valBk zer61]:=⟨_,rfl⟩
  have x2:Ext H1 H2:=by rw [eH2];exact .app .refl
  rw [← eH2] at stz
  unfold valBk zer61 at eH2
  have tc:(vldE R l=0)=False:=eq_false c
  have re:hldE R l=false:=by unfold hldE;rw [decide_eq_false c];rfl
  rw [re]
  have hsp:=@Nat.succ_ne_zero;repeat' (first|simp (disch:=first|exact dq|fail) only [go_sem,↓reduceIte,hsp,← eG0,g0,e1,← eH2,stz,tc]|refine WP_drw ?_|refine cnd_intro (fun hsp=>?_) fun hsp=>?_)
  exact fin_pl rfl rfl (xx.trans x2)
set_option maxRecDepth 100000 in
set_option maxHeartbeats 4000000 in
theorem run_Bound {base:Nat} {h:Heap} {v lv:AVal} {R:Rib} {l:List Int} (hA:RibAt h v R) (hsm:R.F.length≤1048576) (hI:Ints h lv l) :
  callL prog raw base (.fn 78 [] []) [v,lv] h=some (.tuple [.int .i64 (bndE R l).1,.int .i64 (bndE R l).2],h):=by
 have hAe:=fun H (e:Ext h H)=>hA.ext e
 obtain ⟨fv,wv,rfl,hF,hW⟩:=hA
 have o1:=hF.one
 have o2:=hW.one
 have ol:=hI.one
 obtain ⟨G0,eG0⟩:∃ G0,G0=h++[ribB R.L fv wv]:=⟨_,rfl⟩
 have x0:Ext h G0:=by rw [eG0];exact .app .refl
 have g0:G0[h.length]?=some (ribB R.L fv wv):=by rw [eG0];exact get_eq rfl
 have l0:G0.length=h.length+1:=by rw [eG0];simp
 obtain ⟨_,H1,e1,x1,a,rfl,oa,hid⟩:=run_valued (base:=h.length) (h:=G0) (by omega) (hAe G0 x0) hsm (hI.ext x0)
 have l1:=x1.len
 have xx:=x0.trans x1
 have hz:zer61.length=61:=by decide
 have g1:(H1++[valBk zer61])[H1.length]?=some (valBk zer61):=get_eq rfl
 unfold ribB at eG0 g0
 refine callL_run func78 rfl rfl ?_
 by_cases c:vldE R l=0
 ·obtain ⟨hR,hll,hlb⟩:=vld_ok c
  have hL:=hR.L
  obtain ⟨id,rfl,hD⟩:=hid c
  have hpl:=padV_len (l:=l) (by omega)
  rw [if_pos c,c] at e1
  have stp:=stV61 (base:=h.length) (l:=padV l) g1 hpl hz
  rw [set_eq rfl] at stp
  obtain ⟨H2,eH2⟩:∃ H2,H2=H1++[valBk (padV l)]:=⟨_,rfl⟩
  have x2:Ext H1 H2:=by rw [eH2];exact .app .refl
  have q2:H2[H1.length]?=some (valBk (padV l)):=by rw [eH2];exact get_eq rfl
  rw [← eH2] at stp
  have ldp:=ldA61 (l:=padV l) (e:=106) (row:=false) (ro:=false) hpl
  have hh:=fun base=>run_holds (base:=base) (b:=hldB R (padV l)) (hD.ext x2) hR hpl (padV_b hlb) hldB_iff
  rw [hld_pad hR hll] at hh
  unfold valBk zer61 at stp
  unfold valBk at q2
  rcases Bool.eq_false_or_eq_true (hldB R l) with qb|qb
  ·rw [qb] at hh
   have re:bndE R l=(l.getD 0 0,0):=by unfold bndE;rw [if_neg (fun q=>q c),if_pos qb]
   rw [re]
   have ld0:∀ z,ldB (some (false,z)) (some (valBk (padV l))) 0 0=some (.int .i64 (l.getD 0 0)):=fun z=>by rw [← padV_at (l:=l) (i:=0) (by omega)];exact ldB_ints (by omega)
   unfold valBk at ld0
   have hsp:=@Nat.succ_ne_zero;repeat' (first|simp (disch:=first|exact dq|fail) only [go_sem,↓reduceIte,hsp,← eG0,g0,e1,stp,eq_self,q2,ldp,hh,ld0,Bool.not_true]|refine WP_drw ?_|refine cnd_intro (fun hsp=>?_) fun hsp=>?_)
   exact fin_pl rfl rfl (xx.trans x2)
  ·rw [qb] at hh
   have re:bndE R l=(0,8):=by unfold bndE;rw [if_neg (fun q=>q c),if_neg (by rw [qb];simp)]
   rw [re]
   have hsp:=@Nat.succ_ne_zero;repeat' (first|simp (disch:=first|exact dq|fail) only [go_sem,↓reduceIte,hsp,← eG0,g0,e1,stp,eq_self,q2,ldp,hh,Bool.not_false]|refine WP_drw ?_|refine cnd_intro (fun hsp=>?_) fun hsp=>?_)
   exact fin_pl rfl rfl (xx.trans x2)
 ·rw [if_neg c] at e1
  have stz:=stV61 (base:=h.length) (l:=zer61) g1 hz hz
  rw [set_eq rfl] at stz
  obtain ⟨H2,eH2⟩:∃ H2,H2=H1++[valBk zer61]:=⟨_,rfl⟩
  have x2:Ext H1 H2:=by rw [eH2];exact .app .refl
  rw [← eH2] at stz
  unfold valBk zer61 at eH2
  have tc:(vldE R l=0)=False:=eq_false c
  have re:bndE R l=(0,vldE R l):=by unfold bndE;rw [if_pos c]
  rw [re]
  have hsp:=@Nat.succ_ne_zero;repeat' (first|simp (disch:=first|exact dq|fail) only [go_sem,↓reduceIte,hsp,← eG0,g0,e1,← eH2,stz,tc]|refine WP_drw ?_|refine cnd_intro (fun hsp=>?_) fun hsp=>?_)
  exact fin_pl rfl rfl (xx.trans x2)
end Go.AM
namespace Go.AM
open Go.Proofs.Tryz
attribute [-go_sem] put_ne put_same
attribute [local go_sem ↓] put_if
set_option maxRecDepth 100000 in
set_option maxHeartbeats 4000000 in
theorem run_rmade {base:Nat} {h:Heap} {v:AVal} {R:Rib} (hb:base≤h.length) (hA:RibAt h v R) (hR:RibOk R) :
  Ret prog raw base (.fn 74 [] []) [v] h (fun w H=>Ext h H∧Own encI 3 h.length H w (lst (fun y=>valD R y) (R.L.toNat+1))):=by
 have hAe:=fun H (e:Ext h H)=>hA.ext e
 obtain ⟨fv,wv,rfl,hF,hW⟩:=hA
 have o1:=hF.one
 have o2:=hW.one
 have hL:=hR.L
 obtain ⟨n,en⟩:=Int.eq_ofNat_of_zero_le (show 0≤R.L by omega)
 have en':R.L.toNat=n:=by omega
 obtain ⟨G,eG⟩:∃ G,G=h++[rrbB R.L fv wv]:=⟨_,rfl⟩
 have xG:Ext h G:=by rw [eG];exact .app .refl
 have g0:G[h.length]?=some (rrbB R.L fv wv):=by rw [eG];exact get_eq rfl
 have lG:G.length=h.length+1:=by rw [eG];simp
 unfold rrbB at eG g0
 refine ret_raw func74 rfl (by kernel_rfl) ?_
 have hsp:=@Nat.succ_ne_zero;repeat' (first|simp (disch:=first|exact dq|fail) only [go_sem,↓reduceIte,hsp,← eG]|refine WP_drw ?_|refine cnd_intro (fun hsp=>?_) fun hsp=>?_)
 refine WP_count [(3,22)] 0 (n+1) (Nat.zero_le _) (fun _ x fr K=>fr 4=.int .i64 (x:Int)∧Ext G K∧∃ w,fr 3=w∧Own encI 3 G.length K w (lst (fun y=>valD R y) x)) ?_ ?_ ?_
 ·exact ⟨by (simp (disch:=first|exact dq|fail) only [go_sem,↓reduceIte,Int.natCast_zero];first|done|rfl),.refl,.slice none 0 0,by (simp (disch:=first|exact dq|fail) only [go_sem,↓reduceIte,Int.natCast_zero];first|done|rfl),Own.nil⟩
 ·rintro x fr K hx0 hx hAg ⟨r4,xK,w,r3,oW⟩
  have q1:=hAg 1 rfl
  have q2:=hAg 2 rfl
  try simp (disch:=first|exact dq|fail) only [go_sem,↓reduceIte] at q1 q2
  have hle:((x:Int)≤R.L)=True:=eq_true (by omega)
  have ow:=oW.one
  have lK:=xK.len
  have g0K:=xK.get g0
  have he:=fun base=>run_earned (base:=base) (f:=x) (hAe K (xG.trans xK)) hR (by omega)
  obtain ⟨w',K2,ea,oW',lW,eW,oneW⟩:=oW.append1 (P:=prog) (y:=valD R x) (a:=.int .i64 (valD R x)) (base:=base) (t:=32) rfl rfl Fc.el32 encI_sc (by omega) (by omega) (by rw [lst_len];omega)
  rw [← lst_succ] at oW'
  have hsp:=@Nat.succ_ne_zero;repeat' (first|simp (disch:=first|exact dq|fail) only [go_sem,↓reduceIte,hsp,r4,r3,q1,q2,g0K,hle,he,ea]|refine WP_drw ?_|refine cnd_intro (fun hsp=>?_) fun hsp=>?_)
  exact ⟨agq,by omega,eW G (Nat.le_refl _) xK,w',rfl,oW'⟩
 ·rintro fr K hAg ⟨r4,xK,w,r3,oW⟩
  have q1:=hAg 1 rfl
  have q2:=hAg 2 rfl
  try simp (disch:=first|exact dq|fail) only [go_sem,↓reduceIte] at q1 q2
  have hle:(((n+1:Nat):Int)≤R.L)=False:=eq_false (by omega)
  have ow:=oW.one
  have g0K:=xK.get g0
  have hsp:=@Nat.succ_ne_zero;repeat' (first|simp (disch:=first|exact dq|fail) only [go_sem,↓reduceIte,hsp,r4,r3,q1,q2,g0K,hle]|refine WP_drw ?_|refine cnd_intro (fun hsp=>?_) fun hsp=>?_)
  exact ⟨xG.trans xK,by rw [en'];exact oW.low (by omega)⟩
set_option maxRecDepth 100000 in
set_option maxHeartbeats 4000000 in
theorem run_rvalues {base:Nat} {h:Heap} {v lv:AVal} {R:Rib} {l:List Int} (hA:RibAt h v R) (hR:RibOk R) (hI:Ints h lv l) (hl:l.length≤1000) :
  callL prog raw base (.fn 75 [] []) [v,lv] h=some (.int .i64 (vldE R l),h):=by
 obtain ⟨fv,wv,rfl,hF,hW⟩:=hA
 have o1:=hF.one
 have o2:=hW.one
 have ol:=hI.one
 have hL:=hR.L
 obtain ⟨G,eG⟩:∃ G,G=h++[rrbB R.L fv wv]:=⟨_,rfl⟩
 have xG:Ext h G:=by rw [eG];exact .app .refl
 have g0:G[h.length]?=some (rrbB R.L fv wv):=by rw [eG];exact get_eq rfl
 have iL:=hI.ext xG
 have hn:=lenI iL
 have hck:=chkR_iff.2 hR
 unfold rrbB at eG g0
 refine callL_run func75 rfl rfl ?_
 by_cases c1:(l.length:Int)=R.L+1
 ·have t1:((l.length:Int)=R.L+1)=True:=eq_true c1
  have hsp:=@Nat.succ_ne_zero;repeat' (first|simp (disch:=first|exact dq|fail) only [go_sem,↓reduceIte,hsp,← eG,hn,g0,t1]|refine WP_drw ?_|refine cnd_intro (fun hsp=>?_) fun hsp=>?_)
  refine WP_count [(4,22)] 0 l.length (Nat.zero_le _) (fun _ i fr H=>fr 5=.int .i64 (i:Int)∧H=G∧∀ j,j<i→-10000≤l.getD j 0∧l.getD j 0≤10000) ?_ ?_ ?_
  ·exact ⟨by (simp (disch:=first|exact dq|fail) only [go_sem,↓reduceIte,Int.natCast_zero];first|done|rfl),rfl,fun j hj=>by omega⟩
  ·rintro i fr H hi0 hi hAg ⟨r5,rfl,hpre⟩
   have q1:=hAg 1 rfl
   try simp (disch:=first|exact dq|fail) only [go_sem,↓reduceIte] at q1
   have hlt:((i:Int)<(l.length:Int))=True:=eq_true (by omega)
   have ai:=adrI (i:=(i:Int)) (by omega) iL (by omega)
   rw [Int.toNat_natCast] at ai
   have li:=loadI iL hi
   have hof:=fun base h=>run_off (base:=base) (h:=h) (n:=l.getD i 0) (lo:=-10000) (hi:=10000)
   by_cases c2:-10000≤l.getD i 0∧l.getD i 0≤10000
   ·rw [decide_eq_true c2] at hof
    have hsp:=@Nat.succ_ne_zero;repeat' (first|simp (disch:=first|exact dq|fail) only [go_sem,↓reduceIte,hsp,r5,q1,hn,hlt,ai,li,hof,Bool.not_true]|refine WP_drw ?_|refine cnd_intro (fun hsp=>?_) fun hsp=>?_)
    refine ⟨agq,by omega,fun j hj=>?_⟩
    by_cases e:j=i
    ·subst e;exact c2
    ·exact hpre j (by omega)
   ·rw [decide_eq_false c2] at hof
    have re:vldE R l=3:=by
     unfold vldE
     rw [if_neg (fun q=>q hck),if_neg (fun q=>q c1),if_pos]
     intro q
     exact c2 (of_decide_eq_true (List.all_eq_true.1 q _ (getD_mem' hi)))
    rw [re]
    have hsp:=@Nat.succ_ne_zero;repeat' (first|simp (disch:=first|exact dq|fail) only [go_sem,↓reduceIte,hsp,r5,q1,hn,hlt,ai,li,hof,Bool.not_false]|refine WP_drw ?_|refine cnd_intro (fun hsp=>?_) fun hsp=>?_)
    exact fI rfl xG
  ·rintro fr H hAg ⟨r5,rfl,hpre⟩
   have q1:=hAg 1 rfl
   try simp (disch:=first|exact dq|fail) only [go_sem,↓reduceIte] at q1
   have hlt:((l.length:Int)<(l.length:Int))=False:=eq_false (by omega)
   have re:vldE R l=0:=by
    unfold vldE
    rw [if_neg (fun q=>q hck),if_neg (fun q=>q c1),if_neg]
    refine fun q=>q (List.all_eq_true.2 fun y hy=>decide_eq_true ?_)
    obtain ⟨j,hj⟩:=List.getElem?_of_mem hy
    have:=hpre j (List.getElem?_eq_some_iff.1 hj).1
    rw [List.getD_eq_getElem?_getD,hj] at this
    exact this
   rw [re]
   have hsp:=@Nat.succ_ne_zero;repeat' (first|simp (disch:=first|exact dq|fail) only [go_sem,↓reduceIte,hsp,r5,q1,hn,hlt]|refine WP_drw ?_|refine cnd_intro (fun hsp=>?_) fun hsp=>?_)
   exact fI rfl xG
 ·have t1:((l.length:Int)=R.L+1)=False:=eq_false c1
  have re:vldE R l=2:=by unfold vldE;rw [if_neg (fun q=>q hck),if_pos c1]
  rw [re]
  have hsp:=@Nat.succ_ne_zero;repeat' (first|simp (disch:=first|exact dq|fail) only [go_sem,↓reduceIte,hsp,← eG,hn,g0,t1]|refine WP_drw ?_|refine cnd_intro (fun hsp=>?_) fun hsp=>?_)
  exact fI rfl xG
end Go.AM
namespace Go.AM
open Go.Proofs.Tryz
attribute [-go_sem] put_ne put_same
attribute [local go_sem ↓] put_if
set_option maxRecDepth 100000 in
set_option maxHeartbeats 4000000 in
theorem run_rholds {base:Nat} {h:Heap} {v lv:AVal} {R:Rib} {l:List Int} {b:Bool} (hA:RibAt h v R) (hR:RibOk R) (hI:Ints h lv l) (hl:(l.length:Int)=R.L+1) (hlb:∀ y ∈ l,-10000≤y∧y≤10000) (hb:b=true ↔ Hld R l) :
  callL prog raw base (.fn 76 [] []) [v,lv] h=some (.bool b,h):=by
 have hAe:=fun H (e:Ext h H)=>hA.ext e
 obtain ⟨fv,wv,rfl,hF,hW⟩:=hA
 have o1:=hF.one
 have o2:=hW.one
 have ol:=hI.one
 have hL:=hR.L
 obtain ⟨n,en⟩:=Int.eq_ofNat_of_zero_le (show 0≤R.L by omega)
 have en':R.L.toNat=n:=by omega
 have hvb:=getD_b hlb (by omega)
 obtain ⟨G,eG⟩:∃ G,G=h++[rrbB R.L fv wv]:=⟨_,rfl⟩
 have xG:Ext h G:=by rw [eG];exact .app .refl
 have g0:G[h.length]?=some (rrbB R.L fv wv):=by rw [eG];exact get_eq rfl
 have lG:G.length=h.length+1:=by rw [eG];simp
 have iG:=hI.ext xG
 have aL:=adrI (i:=R.L) (by omega) iG (by omega)
 have lL:=loadI iG (i:=R.L.toNat) (by omega)
 unfold rrbB at eG g0
 refine callL_run func76 rfl rfl ?_
 by_cases c0:l.getD R.L.toNat 0<0
 ·have t0:(l.getD R.L.toNat 0<0)=True:=eq_true c0
  have hbf:b=false:=by
   cases b with
   | false=>rfl
   | true=>have:=(hb.1 rfl).fin;omega
  rw [hbf]
  have hsp:=@Nat.succ_ne_zero;repeat' (first|simp (disch:=first|exact dq|fail) only [go_sem,↓reduceIte,hsp,← eG,g0,aL,lL,t0]|refine WP_drw ?_|refine cnd_intro (fun hsp=>?_) fun hsp=>?_)
  exact fB rfl xG
 ·have t0:(l.getD R.L.toNat 0<0)=False:=eq_false c0
  have hsp:=@Nat.succ_ne_zero;repeat' (first|simp (disch:=first|exact dq|fail) only [go_sem,↓reduceIte,hsp,← eG,g0,aL,lL,t0]|refine WP_drw ?_|refine cnd_intro (fun hsp=>?_) fun hsp=>?_)
  refine WP_count [(4,62)] 0 n (Nat.zero_le _) (fun _ x fr K=>fr 5=.int .i64 (x:Int)∧Ext G K∧∀ y,y<x→l.getD (y+1) 0≤l.getD y 0∧∀ c ∈ cutL R y,c.2.2+l.getD c.2.1.toNat 0≤l.getD y 0) ?_ ?_ ?_
  ·exact ⟨by (simp (disch:=first|exact dq|fail) only [go_sem,↓reduceIte,Int.natCast_zero];first|done|rfl),.refl,fun y hy=>by omega⟩
  ·rintro x fr K hx0 hx hAg ⟨r5,xK,hpre⟩
   have q1:=hAg 1 rfl
   have q2:=hAg 2 rfl
   try simp (disch:=first|exact dq|fail) only [go_sem,↓reduceIte] at q1 q2
   have hlt:((x:Int)<R.L)=True:=eq_true (by omega)
   have hxl:x<R.L.toNat:=by omega
   have g0K:=xK.get g0
   have xh:=xG.trans xK
   have lK:=xK.len
   have iK:=hI.ext xh
   have a1:=adrI (i:=(x:Int)) (by omega) iK (by omega)
   have a2:=adrI (i:=(x:Int)+1) (by omega) iK (by omega)
   rw [Int.toNat_natCast] at a1
   rw [show ((x:Int)+1).toNat=x+1 by omega] at a2
   have d1:=loadI iK (i:=x) (by omega)
   have d2:=loadI iK (i:=x+1) (by omega)
   have bx:=hvb x
   obtain ⟨vx,evx⟩:∃ vx,vx=l.getD x 0:=⟨_,rfl⟩
   obtain ⟨vy,evy⟩:∃ vy,vy=l.getD (x+1) 0:=⟨_,rfl⟩
   rw [← evx] at d1 bx
   rw [← evy] at d2
   by_cases c1:vx<vy
   ·have t1:(vx<vy)=True:=eq_true c1
    have hbf:b=false:=by
     cases b with
     | false=>rfl
     | true=>have:=(hb.1 rfl).up x hxl;rw [← evx,← evy] at this;omega
    rw [hbf]
    have hsp:=@Nat.succ_ne_zero;repeat' (first|simp (disch:=first|exact dq|fail) only [go_sem,↓reduceIte,hsp,r5,q1,q2,g0K,hlt,a1,a2,d1,d2,t1]|refine WP_drw ?_|refine cnd_intro (fun hsp=>?_) fun hsp=>?_)
    exact fB rfl xh
   ·have t1:(vx<vy)=False:=eq_false c1
    obtain ⟨lw,K2,e2,x2,oA⟩:=run_rall (base:=h.length) (h:=K) (x:=x) (by omega) (hAe K xh) hR hxl
    have olw:=oA.one
    have x2h:=xh.trans x2
    have hcl:=cutL_len (x:=x) hR
    have iP:=oA.rows (by rw [List.length_map];omega)
    have hlX:=rct_len iP
    rw [List.length_map] at hlX
    have i2:=hI.ext x2h
    have b1:=adrI (i:=(x:Int)) (by omega) i2 (by omega)
    rw [Int.toNat_natCast] at b1
    have f1:=loadI i2 (i:=x) (by omega)
    rw [← evx] at f1
    have g02:=x2.get g0K
    have hsp:=@Nat.succ_ne_zero;repeat' (first|simp (disch:=first|exact dq|fail) only [go_sem,↓reduceIte,hsp,r5,q1,q2,g0K,hlt,a1,a2,d1,d2,t1,e2]|refine WP_drw ?_|refine cnd_intro (fun hsp=>?_) fun hsp=>?_)
    refine WP_count [(4,4),(7,62)] 0 (cutL R x).length (Nat.zero_le _) (fun _ j fr X=>fr 7=.int .i64 (j:Int)∧X=K2∧∀ c ∈ (cutL R x).take j,c.2.2+l.getD c.2.1.toNat 0≤vx) ?_ ?_ ?_
    ·exact ⟨by (simp (disch:=first|exact dq|fail) only [go_sem,↓reduceIte,Int.natCast_zero];first|done|rfl),rfl,by simp⟩
    ·rintro j fr2 X hj0 hj hA2 ⟨r7,rfl,hc0⟩
     have d1:=hA2 1 rfl
     have d2:=hA2 2 rfl
     have d5:=hA2 5 rfl
     have d6:=hA2 6 rfl
     try simp (disch:=first|exact dq|fail) only [go_sem,↓reduceIte,q1,q2] at d1 d2 d5 d6
     have d5:=hA2 5 rfl
     simp (disch:=first|exact dq|fail) only [go_sem,↓reduceIte,r5] at d5
     have hltj:((j:Int)<((cutL R x).length:Int))=True:=eq_true (by omega)
     obtain ⟨c,ec⟩:∃ c,c=(cutL R x)[j]:=⟨_,rfl⟩
     have hcj:(cutL R x)[j]?=some c:=by rw [ec];exact List.getElem?_eq_getElem hj
     have hcm:=List.mem_of_getElem? hcj
     obtain ⟨hb',hf',hw0,hw1,w,hw,ht⟩:=cutL_b hR hxl hcm
     have htb:=takL_b hR (hR.W w (List.mem_of_getElem? hw)) hxl ht
     have aj:=rct_ad iP (i:=j) (by rw [List.length_map];exact hj)
     have lj:=rct_ld iP (i:=j) (c:=c.1) (by rw [List.getElem?_map,hcj];rfl)
     have hal:=fun base=>run_allowed (base:=base) (j:=c.1.j) (hAe X x2h) hR hw hxl
     rw [ht,show ((c.1.w.toNat:Nat):Int)=c.1.w by omega,← hf'] at hal
     unfold allV at hal
     obtain ⟨e,ee⟩:∃ e,e=c.2.1.toNat:=⟨_,rfl⟩
     have b3:=adrI (i:=c.2.1) (by omega) i2 (by omega)
     rw [← ee] at b3
     have f3:=loadI i2 (i:=e) (by omega)
     have be:=hvb e
     obtain ⟨ve,eve⟩:∃ ve,ve=l.getD e 0:=⟨_,rfl⟩
     rw [← eve] at f3 be
     have htk:(cutL R x).take (j+1)=(cutL R x).take j++[c]:=by rw [List.take_add_one,hcj];rfl
     by_cases c2:vx<c.2.2+ve
     ·have t2:(vx<c.2.2+ve)=True:=eq_true c2
      have hbf:b=false:=by
       cases b with
       | false=>rfl
       | true=>have:=(hb.1 rfl).cut x hxl _ hcm;rw [← ee,← evx,← eve] at this;omega
      rw [hbf]
      have hsp:=@Nat.succ_ne_zero;repeat' (first|simp (disch:=first|exact dq|fail) only [go_sem,↓reduceIte,hsp,r7,d5,d1,d2,d5,d6,q1,q2,hlX,hltj,g02,aj,lj,hal,b1,f1,b3,f3,t2]|refine WP_drw ?_|refine cnd_intro (fun hsp=>?_) fun hsp=>?_)
      exact fB rfl x2h
     ·have t2:(vx<c.2.2+ve)=False:=eq_false c2
      have hsp:=@Nat.succ_ne_zero;repeat' (first|simp (disch:=first|exact dq|fail) only [go_sem,↓reduceIte,hsp,r7,d5,d1,d2,d5,d6,q1,q2,hlX,hltj,g02,aj,lj,hal,b1,f1,b3,f3,t2]|refine WP_drw ?_|refine cnd_intro (fun hsp=>?_) fun hsp=>?_)
      refine ⟨agq,by omega,fun z hz=>?_⟩
      rw [htk] at hz
      rcases List.mem_append.1 hz with q|q
      ·exact hc0 z q
      ·rw [List.mem_singleton.1 q,← ee,← eve];omega
    ·rintro fr2 X hA2 ⟨r7,rfl,hc0⟩
     have d1:=hA2 1 rfl
     have d2:=hA2 2 rfl
     have d5:=hA2 5 rfl
     have d6:=hA2 6 rfl
     try simp (disch:=first|exact dq|fail) only [go_sem,↓reduceIte,q1,q2] at d1 d2 d5 d6
     have d5:=hA2 5 rfl
     simp (disch:=first|exact dq|fail) only [go_sem,↓reduceIte,r5] at d5
     have hltj:(((cutL R x).length:Int)<((cutL R x).length:Int))=False:=eq_false (by omega)
     rw [List.take_length] at hc0
     have hsp:=@Nat.succ_ne_zero;repeat' (first|simp (disch:=first|exact dq|fail) only [go_sem,↓reduceIte,hsp,r7,d5,d1,d2,d5,d6,q1,q2,hlX,hltj]|refine WP_drw ?_|refine cnd_intro (fun hsp=>?_) fun hsp=>?_)
     refine ⟨agq,by omega,xK.trans x2,fun y hy=>?_⟩
     by_cases e:y=x
     ·subst e
      exact ⟨by rw [← evx,← evy];omega,fun c hc=>by rw [← evx];exact hc0 c hc⟩
     ·exact hpre y (by omega)
  ·rintro fr K hAg ⟨r5,xK,hpre⟩
   have q1:=hAg 1 rfl
   have q2:=hAg 2 rfl
   try simp (disch:=first|exact dq|fail) only [go_sem,↓reduceIte] at q1 q2
   have hlt:((n:Int)<R.L)=False:=eq_false (by omega)
   have g0K:=xK.get g0
   have hbt:b=true:=hb.2 ⟨fun y hy=>(hpre y (by omega)).1,fun y hy=>(hpre y (by omega)).2,by omega⟩
   rw [hbt]
   have hsp:=@Nat.succ_ne_zero;repeat' (first|simp (disch:=first|exact dq|fail) only [go_sem,↓reduceIte,hsp,r5,q1,q2,g0K,hlt]|refine WP_drw ?_|refine cnd_intro (fun hsp=>?_) fun hsp=>?_)
   exact fB rfl (xG.trans xK)
end Go.AM
namespace Go.AM
open Go.Proofs.Tryz
attribute [-go_sem] put_ne put_same
attribute [local go_sem ↓] put_if
theorem eqBT:binA prog BinOp.eql 4 (.bool true) (.bool true)=some (.bool true):=by kernel_rfl
theorem eqBF:binA prog BinOp.eql 4 (.bool false) (.bool false)=some (.bool true):=by kernel_rfl
set_option maxRecDepth 100000 in
set_option maxHeartbeats 8000000 in
theorem run_CutValues {base:Nat} {h:Heap} {v0 v1:AVal} (hA0:RibN 1048576 h v0) (hP0:IntsN 1048576 h v1) :
  callL prog raw base (.fn 26 [] []) [v0,v1] h=some (.bool true,h):=by
 obtain ⟨R,hA,-,-⟩:=hA0
 obtain ⟨p,hP,-⟩:=hP0
 have hAA:=hA
 obtain ⟨fv,wv,rfl,hF,hW⟩:=hAA
 have o1:=hF.one
 have o2:=hW.one
 have o3:=hP.one
 obtain ⟨G0,eG0⟩:∃ G0,G0=h++[ribB R.L fv wv]:=⟨_,rfl⟩
 have x0:Ext h G0:=by rw [eG0];exact .app .refl
 have g0:G0[h.length]?=some (ribB R.L fv wv):=by rw [eG0];exact get_eq rfl
 have lG0:G0.length=h.length+1:=by rw [eG0];simp
 have hg:=fun base=>run_wide (base:=base) (m:=30) (hA.ext x0)
 have hlp:=lenI (hP.ext x0)
 have haw:=fun base=>run_awake (base:=base) (h:=G0)
 unfold ribB at eG0
 have g0':=g0
 unfold ribB at g0'
 refine callL_run func26 rfl rfl ?_
 rcases Bool.eq_false_or_eq_true (decide (20<R.F.length ∨ 12<R.W.length) || (decide (30<R.L) && decide (R.L≤60))) with cg|cg
 ·rw [cg] at hg
  have hsp:=@Nat.succ_ne_zero;repeat' (first|simp (disch:=first|exact dq|fail) only [go_sem,↓reduceIte,hsp,← eG0,g0',hg,haw]|refine WP_drw ?_|refine cnd_intro (fun hsp=>?_) fun hsp=>?_)
  exact fB rfl x0
 ·rw [cg] at hg
  simp only [Bool.or_eq_false_iff,Bool.and_eq_false_iff,decide_eq_false_iff_not] at cg
  by_cases cl:70<p.length
  ·have t1:((p.length:Int) > 70)=True:=eq_true (by omega)
   have hsp:=@Nat.succ_ne_zero;repeat' (first|simp (disch:=first|exact dq|fail) only [go_sem,↓reduceIte,hsp,← eG0,g0',hg,hlp,t1,haw]|refine WP_drw ?_|refine cnd_intro (fun hsp=>?_) fun hsp=>?_)
   exact fB rfl x0
  ·have t1:((p.length:Int) > 70)=False:=eq_false (by omega)
   obtain ⟨_,G1,e1,x1,fw,ww,rfl,oF,oW⟩:=run_own (base:=h.length) (h:=G0) (by omega) (hA.ext x0) (by omega) (by omega)
   have l1:=x1.len
   obtain ⟨_,G2,e2,x2,aT,fw2,ww2,rfl,of2,ow2⟩:=run_theirs (base:=h.length) (h:=G1) (by omega) (hA.ext (x0.trans x1)) (by omega) (by omega)
   have l2:=x2.len
   obtain ⟨pw,G3,e3,x3,oP⟩:=run_dupI (base:=h.length) (h:=G2) (by omega) (hP.ext ((x0.trans x1).trans x2)) (by omega)
   have l3:=x3.len
   have ofw:=oF.one
   have oww:=oW.one
   have opw:=oP.one
   obtain ⟨G4,eG4⟩:∃ G4,G4=G3++[ribB R.L fw ww]++[rrbB R.L fw2 ww2]:=⟨_,rfl⟩
   have x4:Ext G3 G4:=by rw [eG4];exact .app (.app .refl)
   have l4:G4.length=G3.length+2:=by rw [eG4];simp
   have gO4:G4[G3.length]?=some (ribB R.L fw ww):=by rw [eG4];exact get_app (get_eq rfl)
   have gT4:G4[G3.length+1]?=some (rrbB R.L fw2 ww2):=by rw [eG4];exact get_eq (by simp)
   have x14:=(x2.trans x3).trans x4
   have xh4:Ext h G4:=(x0.trans x1).trans x14
   have aO4:RibAt G4 (.agg [.int .i64 R.L,fw,ww]) R:=⟨fw,ww,rfl,(ownE_ints oF ⟨by omega,hF.1.2⟩).ext x14,(oW.rows (by omega)).ext x14⟩
   have aT4:RibAt G4 (.agg [.int .i64 R.L,fw2,ww2]) R:=aT.ext (x3.trans x4)
   have pO4:Ints G4 pw p:=(ownE_ints oP ⟨by omega,hP.1.2⟩).ext x4
   have gc4:G4[h.length]?=some (ribB R.L fv wv):=(x1.trans x14).get g0
   have hck:=fun base=>run_rcheck (base:=base) aT4 (by omega) (by omega)
   have g01:=x1.get g0'
   unfold ribB rrbB at eG4
   unfold rrbB at gT4
   have hP4:=hP.ext xh4
   by_cases c:chkR R=0
   ·have hok:=chkR_iff.1 c
    have hL:=hok.L
    rw [c] at hck
    obtain ⟨dv,Z,e5,xZ,oR⟩:=run_rmade (base:=h.length) (h:=G4) (by omega) aT4 hok
    have odv:=oR.one
    obtain ⟨lc,elc⟩:∃ lc,lc=lst (fun y=>valD R y) (R.L.toNat+1):=⟨_,rfl⟩
    have sm:Small lc:=by rw [elc];exact val_small hok (by omega)
    have mv:madE R=lc:=by unfold madE;rw [if_neg (fun q=>q c),elc]
    rw [← elc] at oR
    have hd:Ints Z dv lc:=own_ints oR sm
    have gT5:=xZ.get gT4
    have hPZ:=hP4.ext xZ
    have hrv:=fun base=>run_rvalues (base:=base) (aT4.ext xZ) hok hPZ (by omega)
    by_cases cv:vldE R p=0
    ·obtain ⟨-,hll,hlb⟩:=vld_ok cv
     have hrh:=fun base=>run_rholds (base:=base) (b:=hldB R p) (aT4.ext xZ) hok hPZ hll hlb hldB_iff
     rw [cv] at hrv
     have vv:=cv
     have a0:=adrI (i:=0) (by omega) hPZ (by omega)
     have d0:=loadI hPZ (i:=0) (by omega)
     rcases Bool.eq_false_or_eq_true (hldB R p) with qb|qb
     ·have hv:hldE R p=true:=by unfold hldE;rw [decide_eq_true cv,qb];rfl
      have bv:bndE R p=(p.getD 0 0,0):=by unfold bndE;rw [if_neg (fun q=>q cv),if_pos qb]
      rw [qb] at hrh
      have lZ:=xZ.len
      have aO:=aO4.ext xZ
      have gO:=xZ.get gO4
      have gc:=xZ.get gc4
      obtain ⟨_,Z1,c1,z1,u,rfl,oC⟩:=run_Made (base:=h.length) (h:=Z) (by omega) aO (by omega)
      rw [mv] at oC
      have lz1:=z1.len
      have ou:=oC.one
      have ch:=fun base=>run_Holds (base:=base) (aO.ext z1) (by omega) (pO4.ext (xZ.trans z1))
      have cb:=fun base=>run_Bound (base:=base) (aO.ext z1) (by omega) (pO4.ext (xZ.trans z1))
      rw [hv,vv] at ch
      rw [bv] at cb
      have q1:=fun base=>run_eqI (base:=base) (ownE_ints oC sm) (hd.ext z1)
      have q3:=fun base=>run_same (base:=base) (aO.ext z1) (hA.ext (xh4.trans (xZ.trans z1))) (by omega)
      have q4:=fun base=>run_eqI (base:=base) (pO4.ext (xZ.trans z1)) (hP.ext (xh4.trans (xZ.trans z1)))
      rw [decide_eq_true rfl] at q1 q4
      have q5:=fun base=>run_awake (base:=base) (h:=Z1)
      have gO1:=z1.get gO
      have gc1:=z1.get gc
      unfold ribB at gO gO1 gc1
      have hsp:=@Nat.succ_ne_zero;repeat' (first|simp (disch:=first|exact dq|fail) only [go_sem,↓reduceIte,hsp,← eG0,g0',hg,hlp,t1,e1,g01,e2,e3,← eG4,gT4,hck,eq_self,e5,gT5,hrv,hrh,a0,d0,gO,c1,gO1,ch,cb,decide_true,q1,q3,q4,q5,gc1,eqBT,c]|refine WP_drw ?_|refine cnd_intro (fun hsp=>?_) fun hsp=>?_)
      exact fB rfl (xh4.trans (xZ.trans z1))
     ·have hv:hldE R p=false:=by unfold hldE;rw [qb,Bool.and_false]
      have bv:bndE R p=(0,8):=by unfold bndE;rw [if_neg (fun q=>q cv),if_neg (by rw [qb];simp)]
      rw [qb] at hrh
      have lZ:=xZ.len
      have aO:=aO4.ext xZ
      have gO:=xZ.get gO4
      have gc:=xZ.get gc4
      obtain ⟨_,Z1,c1,z1,u,rfl,oC⟩:=run_Made (base:=h.length) (h:=Z) (by omega) aO (by omega)
      rw [mv] at oC
      have lz1:=z1.len
      have ou:=oC.one
      have ch:=fun base=>run_Holds (base:=base) (aO.ext z1) (by omega) (pO4.ext (xZ.trans z1))
      have cb:=fun base=>run_Bound (base:=base) (aO.ext z1) (by omega) (pO4.ext (xZ.trans z1))
      rw [hv,vv] at ch
      rw [bv] at cb
      have q1:=fun base=>run_eqI (base:=base) (ownE_ints oC sm) (hd.ext z1)
      have q3:=fun base=>run_same (base:=base) (aO.ext z1) (hA.ext (xh4.trans (xZ.trans z1))) (by omega)
      have q4:=fun base=>run_eqI (base:=base) (pO4.ext (xZ.trans z1)) (hP.ext (xh4.trans (xZ.trans z1)))
      rw [decide_eq_true rfl] at q1 q4
      have q5:=fun base=>run_awake (base:=base) (h:=Z1)
      have gO1:=z1.get gO
      have gc1:=z1.get gc
      unfold ribB at gO gO1 gc1
      have hsp:=@Nat.succ_ne_zero;repeat' (first|simp (disch:=first|exact dq|fail) only [go_sem,↓reduceIte,hsp,← eG0,g0',hg,hlp,t1,e1,g01,e2,e3,← eG4,gT4,hck,eq_self,e5,gT5,hrv,hrh,gO,c1,gO1,ch,cb,decide_true,q1,q3,q4,q5,gc1,eqBF,c]|refine WP_drw ?_|refine cnd_intro (fun hsp=>?_) fun hsp=>?_)
      exact fB rfl (xh4.trans (xZ.trans z1))
    ·have tv:(vldE R p=0)=False:=eq_false cv
     have vv:vldE R p=vldE R p:=rfl
     have hv:hldE R p=false:=by unfold hldE;rw [decide_eq_false cv];rfl
     have bv:bndE R p=(0,vldE R p):=by unfold bndE;rw [if_pos cv]
     have lZ:=xZ.len
     have aO:=aO4.ext xZ
     have gO:=xZ.get gO4
     have gc:=xZ.get gc4
     obtain ⟨_,Z1,c1,z1,u,rfl,oC⟩:=run_Made (base:=h.length) (h:=Z) (by omega) aO (by omega)
     rw [mv] at oC
     have lz1:=z1.len
     have ou:=oC.one
     have ch:=fun base=>run_Holds (base:=base) (aO.ext z1) (by omega) (pO4.ext (xZ.trans z1))
     have cb:=fun base=>run_Bound (base:=base) (aO.ext z1) (by omega) (pO4.ext (xZ.trans z1))
     rw [hv,vv] at ch
     rw [bv] at cb
     have q1:=fun base=>run_eqI (base:=base) (ownE_ints oC sm) (hd.ext z1)
     have q3:=fun base=>run_same (base:=base) (aO.ext z1) (hA.ext (xh4.trans (xZ.trans z1))) (by omega)
     have q4:=fun base=>run_eqI (base:=base) (pO4.ext (xZ.trans z1)) (hP.ext (xh4.trans (xZ.trans z1)))
     rw [decide_eq_true rfl] at q1 q4
     have q5:=fun base=>run_awake (base:=base) (h:=Z1)
     have gO1:=z1.get gO
     have gc1:=z1.get gc
     unfold ribB at gO gO1 gc1
     have hsp:=@Nat.succ_ne_zero;repeat' (first|simp (disch:=first|exact dq|fail) only [go_sem,↓reduceIte,hsp,← eG0,g0',hg,hlp,t1,e1,g01,e2,e3,← eG4,gT4,hck,eq_self,e5,gT5,hrv,tv,gO,c1,gO1,ch,cb,decide_true,q1,q3,q4,q5,gc1,eqBF,c]|refine WP_drw ?_|refine cnd_intro (fun hsp=>?_) fun hsp=>?_)
     exact fB rfl (xh4.trans (xZ.trans z1))
   ·have tu:(chkR R=0)=False:=eq_false c
    obtain ⟨Z,eZ⟩:∃ Z,Z=G4:=⟨_,rfl⟩
    have xZ:Ext G4 Z:=by rw [eZ];exact .refl
    rw [← eZ] at eG4 gT4 hck
    obtain ⟨lc,elc⟩:∃ lc:List Int,lc=[]:=⟨_,rfl⟩
    have sm:Small lc:=by rw [elc];exact ⟨by simp,by simp⟩
    have hd:Ints Z (.slice none 0 0) lc:=by rw [elc];exact ints_nil
    have mv:madE R=lc:=by unfold madE;rw [if_pos c,elc]
    have vv:vldE R p=chkR R:=by unfold vldE;rw [if_pos c]
    have cv:vldE R p ≠ 0:=by rw [vv];exact c
    have hv:hldE R p=false:=by unfold hldE;rw [decide_eq_false cv];rfl
    have bv:bndE R p=(0,chkR R):=by unfold bndE;rw [if_pos cv,vv]
    have lZ:=xZ.len
    have aO:=aO4.ext xZ
    have gO:=xZ.get gO4
    have gc:=xZ.get gc4
    obtain ⟨_,Z1,c1,z1,u,rfl,oC⟩:=run_Made (base:=h.length) (h:=Z) (by omega) aO (by omega)
    rw [mv] at oC
    have lz1:=z1.len
    have ou:=oC.one
    have ch:=fun base=>run_Holds (base:=base) (aO.ext z1) (by omega) (pO4.ext (xZ.trans z1))
    have cb:=fun base=>run_Bound (base:=base) (aO.ext z1) (by omega) (pO4.ext (xZ.trans z1))
    rw [hv,vv] at ch
    rw [bv] at cb
    have q1:=fun base=>run_eqI (base:=base) (ownE_ints oC sm) (hd.ext z1)
    have q3:=fun base=>run_same (base:=base) (aO.ext z1) (hA.ext (xh4.trans (xZ.trans z1))) (by omega)
    have q4:=fun base=>run_eqI (base:=base) (pO4.ext (xZ.trans z1)) (hP.ext (xh4.trans (xZ.trans z1)))
    rw [decide_eq_true rfl] at q1 q4
    have q5:=fun base=>run_awake (base:=base) (h:=Z1)
    have gO1:=z1.get gO
    have gc1:=z1.get gc
    unfold ribB at gO gO1 gc1
    have hsp:=@Nat.succ_ne_zero;repeat' (first|simp (disch:=first|exact dq|fail) only [go_sem,↓reduceIte,hsp,← eG0,g0',hg,hlp,t1,e1,g01,e2,e3,← eG4,gT4,hck,eq_self,tu,gO,c1,gO1,ch,cb,decide_true,q1,q3,q4,q5,gc1,eqBF]|refine WP_drw ?_|refine cnd_intro (fun hsp=>?_) fun hsp=>?_)
    exact fB rfl (xh4.trans (xZ.trans z1))
end Go.AM
namespace Go.AM
open Go.Proofs.Tryz
attribute [-go_sem] put_ne put_same
attribute [local go_sem ↓] put_if
theorem eqI5 {x y:Int}:eqT prog 5 3 (.int .i64 x) (.int .i64 y)=some (decide (x=y)):=by
 by_cases h:x=y<;>simp [eqT,h]
theorem fold61 {a b:List Int} (ha:a.length=61) (hb:b.length=61):∀ l:List Nat,(∀ i ∈ l,i<61) →
  l.foldr (fun i acc=>match partQ (false,1) (ints a) (i * (false,1).2),partQ (false,1) (ints b) (i * (false,1).2) with
   | some x,some y=>match eqT prog 5 3 x y with|some true=>acc|r=>r
   | _,_=>.none) (some true)=some (l.all fun i=>decide (a.getD i 0=b.getD i 0))
 | [],_=>rfl
 | i :: l,h=>by
  have hi:=h i (by simp)
  have e1:partQ (false,1) (ints a) (i * (false,1).2)=some (.int .i64 (a.getD i 0)):=by
   simp only [partQ,Nat.mul_one]
   rw [if_neg (by simp)]
   exact ints_get (by omega)
  have e2:partQ (false,1) (ints b) (i * (false,1).2)=some (.int .i64 (b.getD i 0)):=by
   simp only [partQ,Nat.mul_one]
   rw [if_neg (by simp)]
   exact ints_get (by omega)
  have e3:eqT prog 5 3 (.int .i64 (a.getD i 0)) (.int .i64 (b.getD i 0))=some (decide (a.getD i 0=b.getD i 0)):=eqI5
  rw [List.foldr_cons,fold61 ha hb l (fun j hj=>h j (by simp [hj])),e1,e2]
  simp only [e3,List.all_cons]
  cases decide (a.getD i 0=b.getD i 0)<;>simp
theorem ne61 {a b:List Int} (ha:a.length=61) (hb:b.length=61):binA prog .neq 106 (.agg (ints a)) (.agg (ints b))=some (.bool (!(List.range 61).all fun i=>decide (a.getD i 0=b.getD i 0))):=by
 have hg:prog.eqGuardType prog.depth 106=false:=by kernel_rfl
 have ht:tyA prog 3=some (false,1):=Fc.ty3
 have hf:=fold61 ha hb (List.range 61) (fun i hi=>List.mem_range.1 hi)
 have he:eqT prog eqDepth 106 (.agg (ints a)) (.agg (ints b))=some ((List.range 61).all fun i=>decide (a.getD i 0=b.getD i 0)):=by
  rw [← hf]
  unfold eqDepth
  rw [eqT.eq_def]
  simp only [underlying106,ht]
  generalize List.range 61=l
  generalize eqT prog 5 3=f
  rfl
 simp only [binA,hg,he]
 rfl
theorem ne_lt {a b:List Int} (h:a.getD 0 0<b.getD 0 0):(!(List.range 61).all fun i=>decide (a.getD i 0=b.getD i 0))=true:=by
 cases q:(List.range 61).all fun i=>decide (a.getD i 0=b.getD i 0) with
 | false=>rfl
 | true =>
  have:=of_decide_eq_true (List.all_eq_true.1 q 0 (by simp))
  omega
section
variable {base id:Nat} {h:Heap} {m:List Wnt}
abbrev wB (m:List Wnt):ABlk:=rowE encW 50 m 0
theorem stW {o:Nat} {z:List Wnt} (hg:h[id]?=some (wB m)) (hb:base≤id) (ho:o+z.length≤m.length):storeN base h ⟨id,0,o * 5⟩ (flat encW z)=some (h.set id (wB (m.take o++z++m.drop (o+z.length)))):=by
 have e:flat encW m=flat encW (m.take o)++flat encW ((m.drop o).take z.length)++flat encW (m.drop (o+z.length)):=by
  rw [← flat_app,← flat_app]
  congr 1
  rw [List.append_assoc,← List.drop_drop,List.take_append_drop,List.take_append_drop]
 have hz:encW.z=5:=rfl
 have hlo:(flat encW (m.take o)).length=o * 5:=by rw [flat_len,hz,List.length_take];congr 1;omega
 have h1:=splice_mid (flat encW z) (flat encW (m.take o)) (flat encW ((m.drop o).take z.length)) (flat encW (m.drop (o+z.length))) (by rw [flat_len,flat_len,List.length_take,List.length_drop];congr 1;omega)
 rw [← e,← flat_app,← flat_app,hlo] at h1
 have hle:o * 5+z.length * 5≤m.length * 5:=by omega
 rw [store_eq,hg]
 show stQ base id (some ⟨.cells (flat encW m) 50 true false,0⟩) 0 (o * 5) (flat encW z) _=_
 rw [stQ_ok (by rw [flat_len,flat_len,hz];exact hle) (List.all_eq_true.2 fun x hx=>by
  obtain ⟨w,_,hw⟩:=List.mem_flatMap.1 hx
  exact List.all_eq_true.1 (encW_sc w) x hw) hb,h1]
 rfl
theorem slW_to {n k:Nat} {hi:Int} (h0:0≤hi) (h1:hi≤k):sliceA prog 33 (.slice (some ⟨id,0,0⟩) n k) none (some (.int .i64 hi)) none=some (.slice (some ⟨id,0,0⟩) hi.toNat k):=by
 have e1:hi≤(k:Int):=h1
 simp [sliceA,Fc.ar33,Fc.el33,optB,boundA,ARef.add,h0,e1]
theorem slW_from {n k:Nat} {lo:Int} (h0:0≤lo) (h1:lo≤n) (h2:n≤k):sliceA prog 33 (.slice (some ⟨id,0,0⟩) n k) (some (.int .i64 lo)) none none=some (.slice (some ⟨id,0,lo.toNat * 5⟩) (n-lo.toNat) (k-lo.toNat)):=by
 have e1:lo≤(n:Int):=h1
 simp [sliceA,Fc.ar33,Fc.el33,optB,boundA,ARef.add,h0,e1]
theorem slW_two {n k:Nat} {lo hi:Int} (h0:0≤lo) (h1:lo≤hi) (h2:hi≤k):sliceA prog 33 (.slice (some ⟨id,0,0⟩) n k) (some (.int .i64 lo)) (some (.int .i64 hi)) none=some (.slice (some ⟨id,0,lo.toNat * 5⟩) (hi.toNat-lo.toNat) (k-lo.toNat)):=by
 simp only [sliceA,Fc.ar33,Fc.el33,optB,boundI (show 0≤hi by omega) h2,boundI h0 (show lo≤(hi.toNat:Int) by omega)]
 simp [ARef.add]
theorem slW_three {n k:Nat} {lo hi mx:Int} (h0:0≤lo) (h1:lo≤hi) (h2:hi≤mx) (h3:mx≤k):∃ v,sliceA prog 33 (.slice (some ⟨id,0,0⟩) n k) (some (.int .i64 lo)) (some (.int .i64 hi)) (some (.int .i64 mx))=some v:=by
 simp only [sliceA,Fc.ar33,Fc.el33,optB,boundI (show 0≤mx by omega) h3,boundI (show 0≤hi by omega) (show hi≤(mx.toNat:Int) by omega),boundI h0 (show lo≤(hi.toNat:Int) by omega)]
 exact ⟨_,rfl⟩
def wnt0:Wnt:=⟨0,0,0,0,0⟩
theorem run_deleteW {l:List Wnt} {i:Nat} (hg:h[id]?=some (wB l)) (hb:base≤id) (hi:i<l.length) (hl:l.length≤1000) :
  Ret prog raw base (.fn 156 [] []) [.slice (some ⟨id,0,0⟩) l.length l.length,.int .i64 (i:Int),.int .i64 ((i:Int)+1)] h (fun w H=>w=.slice (some ⟨id,0,0⟩) (l.length-1) l.length∧H=h.set id (wB (l.eraseIdx i++[wnt0]))):=by
 obtain ⟨n,en⟩:∃ n,l.length=n:=⟨_,rfl⟩
 rw [en] at hi hl ⊢
 have hid:=lt_of_get hg
 obtain ⟨v3,e3⟩:=slW_three (id:=id) (n:=n) (k:=n) (lo:=(i:Int)) (hi:=(i:Int)+1) (mx:=(n:Int)) (by omega) (by omega) (by omega) (by omega)
 have t1:((i:Int)=(i:Int)+1)=False:=eq_false (by omega)
 have s1:=slW_to (id:=id) (n:=n) (k:=n) (hi:=(i:Int)) (by omega) (by omega)
 have s2:=slW_from (id:=id) (n:=n) (k:=n) (lo:=(i:Int)+1) (by omega) (by omega) (by omega)
 rw [Int.toNat_natCast] at s1
 rw [show ((i:Int)+1).toNat=i+1 by omega] at s2
 obtain ⟨m,em⟩:∃ m,m=l.eraseIdx i++l.drop (n-1):=⟨_,rfl⟩
 have hel:(l.eraseIdx i).length=n-1:=by rw [List.length_eraseIdx,if_pos (by omega)];omega
 have hml:m.length=n:=by rw [em,List.length_append,hel,List.length_drop];omega
 have hld:(l.drop (i+1)).length=n-(i+1):=by rw [List.length_drop,en]
 have hRd:Rows encW h (.slice (some ⟨id,0,(i+1) * 5⟩) (n-(i+1)) (n-(i+1))) (l.drop (i+1)):=by
  refine ⟨by omega,.inr (.inr ⟨⟨id,0,(i+1) * 5⟩,n-(i+1),flat encW l,50,true,false,by rw [hld],hg,?_,?_,by omega⟩)⟩
  ·have e:flat encW l=flat encW (l.take (i+1))++flat encW (l.drop (i+1)):=by rw [← flat_app,List.take_append_drop]
   have hlo:(flat encW (l.take (i+1))).length=(i+1) * 5:=by
    rw [flat_len,List.length_take,Nat.min_eq_left (by omega)];rfl
   show ((flat encW l).drop ((i+1) * 5)).take _=_
   rw [e,← hlo,List.drop_left,List.take_of_length_le (by rw [flat_len];exact Nat.le_refl _)]
  ·rw [hld,flat_len,show encW.z=5 from rfl];simp only;omega
 have hfn:=hRd.firstN
 rw [hld,show encW.z=5 from rfl] at hfn
 have hap:appendA prog base h 33 (.slice (some ⟨id,0,0⟩) i n) (.slice (some ⟨id,0,(i+1) * 5⟩) (n-(i+1)) (n-(i+1)))=some (.slice (some ⟨id,0,0⟩) (n-1) n,h.set id (wB m)):=by
  have hsc:(flat encW (l.drop (i+1))).all AVal.scalar=true:=List.all_eq_true.2 fun x hx=>by
   obtain ⟨w,_,hw⟩:=List.mem_flatMap.1 hx
   exact List.all_eq_true.1 (encW_sc w) x hw
  simp only [appendA,Fc.el33,lenA,hfn,hsc,if_true]
  rw [if_pos (by omega)]
  have:(ARef.mk id 0 0).add (i * 5)=⟨id,0,i * 5⟩:=by simp [ARef.add]
  rw [this,stW hg hb (by rw [hld];omega)]
  simp only [hld]
  rw [show i+(n-(i+1))=n-1 by omega,← List.eraseIdx_eq_take_drop_succ,em]
 obtain ⟨G,eG⟩:∃ G,G=h.set id (wB m):=⟨_,rfl⟩
 rw [← eG] at hap
 have gG:G[id]?=some (wB m):=by rw [eG,List.getElem?_set_self hid]
 have s3:=slW_two (id:=id) (n:=n-1) (k:=n) (lo:=((n-1:Nat):Int)) (hi:=(n:Int)) (by omega) (by omega) (by omega)
 rw [Int.toNat_natCast,Int.toNat_natCast,show n-(n-1)=1 by omega] at s3
 have hcl:clearA prog base G 33 (.slice (some ⟨id,0,(n-1) * 5⟩) 1 1)=some (.tuple [],G.set id (wB (l.eraseIdx i++[wnt0]))):=by
  have hs:=stW (z:=[wnt0]) (o:=n-1) gG hb (by simp;omega)
  have e:m.take (n-1)++[wnt0]++m.drop (n-1+[wnt0].length)=l.eraseIdx i++[wnt0]:=by
   rw [em,List.take_left' hel,List.drop_of_length_le (by simp [hel];omega),List.append_nil]
  rw [e] at hs
  have hr:repCells [AVal.int .i64 0,.int .i64 0,.int .i64 0,.int .i64 0,.int .i64 0] (0+1)=flat encW [wnt0]:=rfl
  simp only [clearA,Fc.el33,hr,hs]
 refine ret_raw func156 rfl (by kernel_rfl) ?_
 have hsp:=@Nat.succ_ne_zero;repeat' (first|simp (disch:=first|exact dq|fail) only [go_sem,↓reduceIte,hsp,e3,t1,s1,s2,hap,s3,hcl]|refine WP_drw ?_|refine cnd_intro (fun hsp=>?_) fun hsp=>?_)
 rw [eG,List.set_set]
end
set_option maxRecDepth 100000 in
set_option maxHeartbeats 4000000 in
theorem run_without {base:Nat} {h:Heap} {v:AVal} {R:Rib} {k:Nat} (hb:base≤h.length) (hA:RibAt h v R) (hR:RibOk R) (hk:k<R.W.length) :
  Ret prog raw base (.fn 140 [] []) [v,.int .i64 (k:Int)] h (fun w H=>Ext h H∧RibAt H w (witR R k)):=by
 have hAe:=fun H (e:Ext h H)=>hA.ext e
 obtain ⟨fv,wv,rfl,hF,hW⟩:=hA
 have o1:=hF.one
 have o2:=hW.one
 have hnW:=hR.nW
 obtain ⟨G0,eG0⟩:∃ G0,G0=h++[ribB R.L fv wv]++[ribB 0 (.slice none 0 0) (.slice none 0 0)]:=⟨_,rfl⟩
 have x0:Ext h G0:=by rw [eG0];exact .app (.app .refl)
 have g0:G0[h.length]?=some (ribB R.L fv wv):=by rw [eG0];exact get_app (get_eq rfl)
 have g00:G0[h.length+1]?=some (ribB 0 (.slice none 0 0) (.slice none 0 0)):=by rw [eG0];exact get_eq (by simp)
 have l0:G0.length=h.length+2:=by rw [eG0];simp
 obtain ⟨w1,H1,e1,x1,-,hne⟩:=run_cloneW (base:=base) (hW.ext x0) (by omega)
 obtain ⟨rfl,eH1⟩:=hne (fun q=>by rw [q] at hk;simp at hk)
 have l1:H1.length=G0.length+1:=by rw [eH1];simp
 have gw:H1[G0.length]?=some (wB R.W):=by rw [eH1];exact get_eq rfl
 obtain ⟨_,H2,e2,rfl,eH2⟩:=run_deleteW (base:=base) gw (by omega) hk (by omega)
 have l2:H2.length=H1.length:=by rw [eH2,List.length_set]
 have g1:=x1.get g0
 have g2:H2[h.length]?=some (ribB R.L fv wv):=by rw [eH2,List.getElem?_set_ne (by omega)];exact g1
 have g3:H2[h.length+1]?=some (ribB 0 (.slice none 0 0) (.slice none 0 0)):=by rw [eH2,List.getElem?_set_ne (by omega)];exact x1.get g00
 have gw2:H2[G0.length]?=some (wB (R.W.eraseIdx k++[wnt0])):=by rw [eH2,List.getElem?_set_self (by omega)]
 have xH2:Ext h H2:=by rw [eH2];exact (x0.trans x1).set (by omega)
 have hel:(R.W.eraseIdx k).length=R.W.length-1:=by rw [List.length_eraseIdx,if_pos hk]
 unfold ribB at eG0 g0 g1 g2 g3
 refine ret_raw func140 rfl (by kernel_rfl) ?_
 have hsp:=@Nat.succ_ne_zero;repeat' (first|simp (disch:=first|exact dq|fail) only [go_sem,↓reduceIte,hsp,← eG0,g0,e1,g1,e2,g2,g3]|refine WP_drw ?_|refine cnd_intro (fun hsp=>?_) fun hsp=>?_)
 obtain ⟨Y,eY⟩:∃ Y,Y=(List.set H2 h.length ⟨.cells [.int .i64 R.L,fv,.slice (some ⟨G0.length,0,0⟩) (R.W.length-1) R.W.length] 35 false false,0⟩).set (h.length+1) ⟨.cells [.int .i64 R.L,fv,.slice (some ⟨G0.length,0,0⟩) (R.W.length-1) R.W.length] 35 false false,0⟩:=⟨_,rfl⟩
 have xf:Ext h Y:=by rw [eY];exact (xH2.set (Nat.le_refl _)).set (by omega)
 have gY:Y[G0.length]?=some (wB (R.W.eraseIdx k++[wnt0])):=by rw [eY,List.getElem?_set_ne (by omega),List.getElem?_set_ne (by omega)];exact gw2
 rw [← eY]
 refine ⟨xf,fv,_,rfl,hF.ext xf,?_⟩
 show Rows encW Y _ (R.W.eraseIdx k)
 refine ⟨by omega,.inr (.inr ⟨⟨G0.length,0,0⟩,R.W.length,flat encW (R.W.eraseIdx k++[wnt0]),50,true,false,by rw [hel],gY,?_,?_,by omega⟩)⟩
 ·show ((flat encW (R.W.eraseIdx k++[wnt0])).drop 0).take _=_
  rw [List.drop_zero,flat_app,← flat_len,List.take_left]
 ·rw [flat_len,List.length_append,Nat.add_mul];simp only;omega
end Go.AM
