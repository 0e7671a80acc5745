/-
  Contracts: numbers in bounds, the greatest one, the error of a ribbon.
-/
import Derived.Test.YtikgghhceolaeaaGreatU12
import Derived.Test.YtikgghhceolaeaaGreatU9
set_option linter.unusedSimpArgs false
set_option linter.unusedVariables false
namespace Go.AM
open Go.Proofs.Tryz
attribute [-go_sem] put_ne put_same
attribute [local go_sem ↓] put_if
theorem run_in {base:Nat} {h:Heap} {n lo hi:Int}:callL prog raw base (.fn 80 [] []) [.int .i64 n,.int .i64 lo,.int .i64 hi] h=some (.bool (decide (lo≤n∧n≤hi)),h):=by
 refine callL_run func80 rfl rfl ?_
 by_cases h1:lo≤n
 ·have t1:(n ≥ lo)=True:=eq_true h1
  have hsp:=@Nat.succ_ne_zero;repeat' (first|simp (disch:=first|exact dq|fail) only [go_sem,↓reduceIte,hsp,t1]|refine WP_drw ?_|refine cnd_intro (fun hsp=>?_) fun hsp=>?_)
  refine fB ?_
  simp [h1]
 ·have t1:(n ≥ lo)=False:=eq_false h1
  have hsp:=@Nat.succ_ne_zero;repeat' (first|simp (disch:=first|exact dq|fail) only [go_sem,↓reduceIte,hsp,t1]|refine WP_drw ?_|refine cnd_intro (fun hsp=>?_) fun hsp=>?_)
  refine fB ?_
  simp [h1]
attribute [go_sem] run_in
def mxF (n:Int) (l:List Int):Int:=l.foldl max n
theorem run_most {base:Nat} {h:Heap} {v:AVal} {l:List Int} {n:Int} (hI:Ints h v l):callL prog raw base (.fn 111 [] []) [.int .i64 n,v] h=some (.int .i64 (mxF n l),h):=by
 have hl:=hI.1.1
 have hlen:=lenI hI
 refine callL_run func111 rfl rfl ?_
 have hsp:=@Nat.succ_ne_zero;repeat' (first|simp (disch:=first|exact dq|fail) only [go_sem,↓reduceIte,hsp,hlen]|refine WP_drw ?_|refine cnd_intro (fun hsp=>?_) fun hsp=>?_)
 refine WP_count [(0,0),(6,6),(9,16)] 0 l.length (Nat.zero_le _) (fun _ i fr h'=>fr 9=.int .i64 (i:Int)∧fr 0=.int .i64 (mxF n (l.take i))∧h'=h) ?_ ?_ ?_
 ·exact ⟨by (simp (disch:=first|exact dq|fail) only [go_sem,↓reduceIte,Int.natCast_zero];first|done|rfl),by simp (disch:=first|exact dq|fail) only [go_sem,↓reduceIte];rfl,rfl⟩
 ·rintro i fr H hi0 hi hA ⟨r9,r0,rfl⟩
  have p4:=hA 4 rfl
  have p7:=hA 7 rfl
  have p8:=hA 8 rfl
  try simp (disch:=first|exact dq|fail) only [go_sem,↓reduceIte] at p4 p7 p8
  have hlt:((i:Int)<(l.length:Int))=True:=eq_true (by omega)
  have hl0:=loadI hI hi
  have ha0:=adrI (i:=(i:Int)) (by omega) hI (by omega)
  rw [Int.toNat_natCast] at ha0
  have hsp:=@Nat.succ_ne_zero;repeat' (first|simp (disch:=first|exact dq|fail) only [go_sem,↓reduceIte,hsp,r9,r0,p4,p7,p8,hlt,ha0,hl0]|refine WP_drw ?_|refine cnd_intro (fun hsp=>?_) fun hsp=>?_)
  refine ⟨agq,by omega,?_⟩
  unfold mxF
  rw [List.take_add_one,getD_some (d:=0) hi,List.foldl_append]
  rfl
 ·rintro fr H hA ⟨r9,r0,rfl⟩
  have p4:=hA 4 rfl
  have p7:=hA 7 rfl
  have p8:=hA 8 rfl
  try simp (disch:=first|exact dq|fail) only [go_sem,↓reduceIte] at p4 p7 p8
  have hlt:((l.length:Int)<(l.length:Int))=False:=eq_false (by omega)
  rw [List.take_length] at r0
  have hsp:=@Nat.succ_ne_zero;repeat' (first|simp (disch:=first|exact dq|fail) only [go_sem,↓reduceIte,hsp,r9,r0,p4,p7,p8,hlt]|refine WP_drw ?_|refine cnd_intro (fun hsp=>?_) fun hsp=>?_)
  exact fI rfl
theorem run_most1 {base m:Nat} {A:Heap} {n x:Int} (hm:m=A.length) (hx:-9223372036854775808≤x∧x<9223372036854775808):callL prog raw base (.fn 111 [] []) [.int .i64 n,.slice (some ⟨m,0,0⟩) 1 1] (A++[rowB [x] 0])=some (.int .i64 (max n x),A++[rowB [x] 0]):=by
 have:=run_most (base:=base) (n:=n) (h:=A++[rowB [x] 0]) (v:=.slice (some ⟨m,0,0⟩) 1 1) (l:=[x]) (slice_row hm rfl ⟨by simp,fun y hy=>by simp at hy;rw [hy];exact hx⟩)
 rwa [show mxF n [x]=max n x from rfl] at this
section
variable {base:Nat} {h:Heap} {L x:Int} {fv wv:AVal} {W:List Wnt}
theorem run_unit (hL:-100000≤L∧L≤100000) (o1:One fv) (o2:One wv):callL prog raw base (.fn 79 [] []) [.agg [.int .i64 L,fv,wv],.int .i64 x] h=some (.bool (decide (0≤x∧x≤L-1)),h):=by
 refine callL_run func79 rfl rfl ?_
 have hsp:=@Nat.succ_ne_zero;repeat' (first|simp (disch:=first|exact dq|fail) only [go_sem,↓reduceIte,hsp]|refine WP_drw ?_|refine cnd_intro (fun hsp=>?_) fun hsp=>?_)
 exact fB rfl
theorem run_unit' (hL:-100000≤L∧L≤100000) (o1:One fv) (o2:One wv):callL prog raw base (.fn 79 [.agg [.int .i64 L,fv,wv]] []) [.int .i64 x] h=some (.bool (decide (0≤x∧x≤L-1)),h):=by
 refine callL_run func79 rfl rfl ?_
 have hsp:=@Nat.succ_ne_zero;repeat' (first|simp (disch:=first|exact dq|fail) only [go_sem,↓reduceIte,hsp]|refine WP_drw ?_|refine cnd_intro (fun hsp=>?_) fun hsp=>?_)
 exact fB rfl
theorem run_want (hR:Rows encW h wv W) (o1:One fv):callL prog raw base (.fn 113 [] []) [.agg [.int .i64 L,fv,wv],.int .i64 x] h=some (.bool (decide (0≤x∧x≤(W.length:Int)-1)),h):=by
 have o2:=hR.one
 have hl:=hR.1
 have hn:=(hR.app (T:=[ribB L fv wv])).len (P:=prog) Fc.el33
 refine callL_run func113 rfl rfl ?_
 have hsp:=@Nat.succ_ne_zero;repeat' (first|simp (disch:=first|exact dq|fail) only [go_sem,↓reduceIte,hsp,hn]|refine WP_drw ?_|refine cnd_intro (fun hsp=>?_) fun hsp=>?_)
 exact fB rfl
theorem run_right {w:Wnt}:callL prog raw base (.fn 82 [] []) [.agg (encW.cells w)] h=some (.bool (wntB w),h):=by
 simp only [encW]
 unfold wntB
 refine callL_run func82 rfl rfl ?_
 by_cases c1:1≤w.lg∧w.lg≤60
 ·have t1:decide (1≤w.lg∧w.lg≤60)=true:=decide_eq_true c1
  by_cases c2:0≤w.pr∧w.pr≤100
  ·have t2:decide (0≤w.pr∧w.pr≤100)=true:=decide_eq_true c2
   by_cases c3:0≤w.off∧w.off≤20
   ·have t3:decide (0≤w.off∧w.off≤20)=true:=decide_eq_true c3
    by_cases c4:0≤w.fl∧w.fl≤4
    ·have t4:decide (0≤w.fl∧w.fl≤4)=true:=decide_eq_true c4
     have hsp:=@Nat.succ_ne_zero;repeat' (first|simp (disch:=first|exact dq|fail) only [go_sem,↓reduceIte,hsp,t1,t2,t3,t4]|refine WP_drw ?_|refine cnd_intro (fun hsp=>?_) fun hsp=>?_)
     exact fB (by simp)
    ·have t4:decide (0≤w.fl∧w.fl≤4)=false:=decide_eq_false c4
     have hsp:=@Nat.succ_ne_zero;repeat' (first|simp (disch:=first|exact dq|fail) only [go_sem,↓reduceIte,hsp,t1,t2,t3,t4]|refine WP_drw ?_|refine cnd_intro (fun hsp=>?_) fun hsp=>?_)
     exact fB (by simp)
   ·have t3:decide (0≤w.off∧w.off≤20)=false:=decide_eq_false c3
    have hsp:=@Nat.succ_ne_zero;repeat' (first|simp (disch:=first|exact dq|fail) only [go_sem,↓reduceIte,hsp,t1,t2,t3]|refine WP_drw ?_|refine cnd_intro (fun hsp=>?_) fun hsp=>?_)
    exact fB (by simp)
  ·have t2:decide (0≤w.pr∧w.pr≤100)=false:=decide_eq_false c2
   have hsp:=@Nat.succ_ne_zero;repeat' (first|simp (disch:=first|exact dq|fail) only [go_sem,↓reduceIte,hsp,t1,t2]|refine WP_drw ?_|refine cnd_intro (fun hsp=>?_) fun hsp=>?_)
   exact fB (by simp)
 ·have t1:decide (1≤w.lg∧w.lg≤60)=false:=decide_eq_false c1
  have hsp:=@Nat.succ_ne_zero;repeat' (first|simp (disch:=first|exact dq|fail) only [go_sem,↓reduceIte,hsp,t1]|refine WP_drw ?_|refine cnd_intro (fun hsp=>?_) fun hsp=>?_)
  exact fB (by simp)
end
theorem Ints.lowR {h G:Heap} {v:AVal} {l:List Int} (hI:Ints h v l) (e:Ext h G):refsLow G.length v:=by
 rcases hI.2 with ⟨rfl,_⟩|⟨rfl,_⟩|⟨r,k,c,e1,row,ro,rfl,h2,_⟩
 ·exact refsLow_nil
 ·rfl
 ·exact refsLow_slice (lt_of_get (e.get h2))
theorem rise_iff {l:List Int}:riseB l=true ↔ l.Pairwise (·<·):=by
 unfold riseB
 rw [decide_eq_true_iff,List.pairwise_iff_getElem]
 constructor
 ·intro h
  have main:∀ (d i:Nat) (hi:i<l.length) (hj:i+d+1<l.length),l[i]<l[i+d+1]:=by
   intro d
   induction d with
   | zero =>
    intro i hi hj
    have:=h (i+0+1) hj (by omega)
    rw [getD_at hj,getD_at (by omega)] at this
    exact this
   | succ d ih =>
    intro i hi hj
    have h1:=ih i hi (by omega)
    have h2:=h (i+(d+1)+1) hj (by omega)
    rw [getD_at hj,getD_at (by omega)] at h2
    exact Int.lt_trans h1 h2
  intro i j hi hj hij
  have:=main (j-i-1) i hi (by omega)
  simpa [show i+(j-i-1)+1=j by omega] using this
 ·intro h i hi h0
  rw [getD_at hi,getD_at (by omega)]
  exact h _ _ (by omega) hi (by omega)
set_option maxHeartbeats 2000000 in
theorem stN2 {base:Nat} {l:List Oper} {s:St} {Q:AExit→St→Prop}:WP prog raw base (.region 8 l.toArray true) s Q=WPS prog raw base (.region 8 l.toArray true) s Q:=WP_stop
attribute [local go_sem ↓ 3000] stN2
theorem run_Check {base:Nat} {h:Heap} {v:AVal} {R:Rib} (hR:RibAt h v R) (hsm:R.F.length≤1048576):callL prog raw base (.fn 27 [] []) [v] h=some (.int .i64 (chkR R),h):=by
 obtain ⟨fv,wv,rfl,hF,hW⟩:=hR
 have o1:=hF.one
 have o2:=hW.one
 obtain ⟨G0,eG0⟩:∃ G0,G0=h++[ribB R.L fv wv]:=⟨_,rfl⟩
 have x0:Ext h G0:=by rw [eG0];exact .app .refl
 have g0:G0[h.length]?=some (ribB R.L fv wv):=by rw [eG0];exact get_eq rfl
 have l0:G0.length=h.length+1:=by rw [eG0];simp
 have iF:=hF.ext x0
 have iW:=hW.ext x0
 have hn1:=lenI iF
 have hn2:=iW.len (P:=prog) Fc.el33
 have ev1:=fun base=>every_W (base:=base) (g:=.fn 82 [] []) wntB iW (fun base T x _=>run_right) ⟨rfl,rfl,rfl⟩
 unfold ribB at eG0 g0
 refine callL_run func27 rfl rfl ?_
 by_cases c0:1≤R.L∧R.L≤60
 ·have t0:decide (1≤R.L∧R.L≤60)=true:=decide_eq_true c0
  by_cases c1:(R.F.length:Int) > 12
  ·have t1:((R.F.length:Int) > 12)=True:=eq_true c1
   have hsp:=@Nat.succ_ne_zero;repeat' (first|simp (disch:=first|exact dq|fail) only [go_sem,↓reduceIte,hsp,← eG0,g0,t0,hn1,t1]|refine WP_drw ?_|refine cnd_intro (fun hsp=>?_) fun hsp=>?_)
   refine fI ?_ x0
   unfold chkR
   rw [if_pos (.inr (.inl c1))]
  ·have t1:((R.F.length:Int) > 12)=False:=eq_false c1
   by_cases c2:(R.W.length:Int) > 6
   ·have t2:((R.W.length:Int) > 6)=True:=eq_true c2
    have hsp:=@Nat.succ_ne_zero;repeat' (first|simp (disch:=first|exact dq|fail) only [go_sem,↓reduceIte,hsp,← eG0,g0,t0,hn1,t1,hn2,t2]|refine WP_drw ?_|refine cnd_intro (fun hsp=>?_) fun hsp=>?_)
    refine fI ?_ x0
    unfold chkR
    rw [if_pos (.inr (.inr c2))]
   ·have t2:((R.W.length:Int) > 6)=False:=eq_false c2
    have u0:¬ (¬ (1≤R.L∧R.L≤60) ∨ (R.F.length:Int) > 12 ∨ (R.W.length:Int) > 6):=by omega
    have ev2:=fun base=>every_I (base:=base) (g:=.fn 79 [.agg [.int .i64 R.L,fv,wv]] []) (fun x=>decide (0≤x∧x≤R.L-1)) iF (fun base T x _=>run_unit' (by omega) o1 o2) ⟨rfl,rfl,rfl⟩
    cases c3:R.W.all wntB with
    | false =>
     rw [c3] at ev1
     have hsp:=@Nat.succ_ne_zero;repeat' (first|simp (disch:=first|exact dq|fail) only [go_sem,↓reduceIte,hsp,← eG0,g0,t0,hn1,t1,hn2,t2,ev1]|refine WP_drw ?_|refine cnd_intro (fun hsp=>?_) fun hsp=>?_)
     refine fI ?_ x0
     unfold chkR
     rw [if_neg u0,if_pos (by rw [c3];simp)]
    | true =>
     rw [c3] at ev1
     cases c4:(R.F.all fun x=>decide (0≤x∧x≤R.L-1)) with
     | false =>
      rw [c4] at ev2
      have hsp:=@Nat.succ_ne_zero;repeat' (first|simp (disch:=first|exact dq|fail) only [go_sem,↓reduceIte,hsp,← eG0,g0,t0,hn1,t1,hn2,t2,ev1,ev2]|refine WP_drw ?_|refine cnd_intro (fun hsp=>?_) fun hsp=>?_)
      refine fI ?_ x0
      unfold chkR
      rw [if_neg u0,if_neg (by rw [c3];simp),if_pos (by rw [c4];simp)]
     | true =>
      rw [c4] at ev2
      have u3:¬ ¬ R.W.all wntB=true:=by rw [c3];simp
      have u4:¬ ¬ (R.F.all fun x=>decide (0≤x∧x≤R.L-1))=true:=by rw [c4];simp
      have hs:Small R.F:=⟨by omega,hF.1.2⟩
      have hso0:=fun base=>run_sorted (base:=base) iF
      have hc:=fun base=>run_clone (base:=base) iF hs
      have hFl:=hF.1.1
      have hsp:=@Nat.succ_ne_zero;repeat' (first|simp (disch:=first|exact dq|fail) only [go_sem,↓reduceIte,hsp,← eG0,g0,t0,hn1,t1,hn2,t2,ev1,ev2]|refine WP_drw ?_|refine cnd_intro (fun hsp=>?_) fun hsp=>?_)
      refine WPS_go ?_
      cases hso:sortB R.F with
      | false =>
       have hr:¬ R.F.Pairwise (·<·):=fun q=>by
        have q:=of_decide_eq_true (rise_iff.2 q)
        unfold sortB at hso
        exact of_decide_eq_false hso fun i h1 h2=>by have:=q i h1 h2;omega
       rw [hso] at hso0
       refine WP_drw ?_
       have hsp:=@Nat.succ_ne_zero;repeat' (first|simp (disch:=first|exact dq|fail) only [go_sem,↓reduceIte,hsp,g0,hso0]|refine WP_drw ?_|refine cnd_intro (fun hsp=>?_) fun hsp=>?_)
       refine fI ?_ x0
       unfold chkR
       rw [if_neg u0,if_neg u3,if_neg u4,if_pos hr]
      | true =>
       rw [hso] at hso0
       have hso2:=of_decide_eq_true hso
       have key:nodup R.F ↔ R.F.Pairwise (·<·):=by
        rw [← rise_iff]
        unfold riseB nodup
        rw [decide_eq_true_iff]
        exact ⟨fun hd i h1 h2=>by have:=hd i h1 h2;have:=hso2 i h1 h2;omega,fun hh i h1 h2=>by have:=hh i h1 h2;omega⟩
       by_cases hz:nilB fv=true ∨ R.F=[]
       ·have hl0:R.F=[]:=hz.elim (fun hn=>(hF.nilB_nil hn).2) id
        have hic:Ints G0 (cloneV fv G0.length R.F) R.F:=by
         have:=cloneV_ints iF hs
         rw [hl0] at this ⊢
         simpa [cloneH,newH_nil] using this
        obtain ⟨cv,CH,ce,hv1,hv2⟩:=run_compact0 (base:=h.length) hic (by rw [hl0];simp)
        rw [hv1,hv2] at ce
        have hce:G0++cloneH fv R.F=G0:=by rw [hl0];simp [cloneH,newH_nil]
        rw [hce] at hc
        have hlt:((R.F.length:Int)<(R.F.length:Int))=False:=eq_false (by omega)
        refine WP_drw ?_
        have hsp:=@Nat.succ_ne_zero;repeat' (first|simp (disch:=first|exact dq|fail) only [go_sem,↓reduceIte,hsp,g0,hso0,hc,ce,hn1,lenI hic,hlt]|refine WP_drw ?_|refine cnd_intro (fun hsp=>?_) fun hsp=>?_)
        refine fI ?_ x0
        unfold chkR
        rw [if_neg u0,if_neg u3,if_neg u4,if_neg (by rw [hl0];simp)]
       ·have hne:R.F ≠ []:=fun e=>hz (.inr e)
        have hnb:nilB fv=false:=by simpa using fun e=>hz (.inl e)
        have e1:∀ n,cloneV fv n R.F=.slice (some ⟨n,0,0⟩) R.F.length R.F.length:=fun n=>by rw [cloneV,if_neg (by simp [hnb]),newV_ne hne]
        have e2:cloneH fv R.F=[rowB R.F 0]:=by rw [cloneH,if_neg (by simp [hnb]),newH_ne hne]
        rw [e1,e2] at hc
        obtain ⟨cv,CH,ce,k,m,rfl,rfl,hm,hk,hiff⟩:=run_compact (base:=h.length) (h:=G0++[rowB R.F 0]) (id:=G0.length) (get_eq rfl) hs
        rw [set_eq rfl] at ce
        have hIm:=lenI (iF.ext (.app (t:=[rowB m 0]) .refl))
        obtain ⟨G2,eG2⟩:∃ G2,G2=G0++[rowB m 0]:=⟨_,rfl⟩
        rw [← eG2] at ce hIm
        have x2:Ext G0 G2:=by rw [eG2];exact .app .refl
        have g2:=x2.get g0
        have g1:(G0++[rowB R.F 0])[h.length]?=_:=get_app g0
        have hkl:lenOpA prog G2 32 (.slice (some ⟨G0.length,0,0⟩) k R.F.length)=some (.int .i64 (k:Int)):=len_sl Fc.el32
        have hlow:refsLow G0.length fv:=hF.lowR x0
        refine WP_wild [⟨11,32,45,⟨h.length,0,1⟩,fv,100⟩] (by kernel_rfl) (by kernel_rfl) (by kernel_rfl) ⟨hlow,trivial⟩ fun K hK=>?_
        iterate 16
         rw [TRS_cons]
         refine ⟨by first|(simp (disch:=first|exact dq|fail) only [go_sem,↓reduceIte,g0,g1,g2,hso0,hc,ce,hIm,hkl,ldsQ_cons,ldsQ_nil,grdQ_cons,grdQ_nil,if_true,Nat.reduceLeDiff];done)|exact trivial,?_⟩
         simp (disch:=first|exact dq|fail) only [go_sem,↓reduceIte,g0,g1,g2,hso0,hc,ce,hIm,hkl]
        rw [TRS_nil]
        refine ⟨by first|(simp (disch:=first|exact dq|fail) only [go_sem,↓reduceIte,g0,g1,g2,hso0,hc,ce,hIm,hkl,ldsQ_cons,ldsQ_nil,grdQ_cons,grdQ_nil,if_true,Nat.reduceLeDiff];done)|exact trivial,?_⟩
        subst hK
        by_cases hd:nodup R.F
        ·have:=hiff.2 hd
         have hlt:((k:Int)<(R.F.length:Int))=False:=eq_false (by omega)
         have hsp:=@Nat.succ_ne_zero;repeat' (first|simp (disch:=first|exact dq|fail) only [go_sem,↓reduceIte,hsp,hlt]|refine WP_drw ?_|refine cnd_intro (fun hsp=>?_) fun hsp=>?_)
         refine fI ?_ (x0.trans x2)
         unfold chkR
         rw [if_neg u0,if_neg u3,if_neg u4,if_neg (fun q=>q (key.1 hd))]
        ·have hkn:¬ k=R.F.length:=fun e=>hd (hiff.1 e)
         have hlt:((k:Int)<(R.F.length:Int))=True:=eq_true (by omega)
         have hsp:=@Nat.succ_ne_zero;repeat' (first|simp (disch:=first|exact dq|fail) only [go_sem,↓reduceIte,hsp,hlt]|refine WP_drw ?_|refine cnd_intro (fun hsp=>?_) fun hsp=>?_)
         refine fI ?_ (x0.trans x2)
         unfold chkR
         rw [if_neg u0,if_neg u3,if_neg u4,if_pos (fun q=>hd (key.2 q))]
 ·have t0:decide (1≤R.L∧R.L≤60)=false:=decide_eq_false c0
  have hsp:=@Nat.succ_ne_zero;repeat' (first|simp (disch:=first|exact dq|fail) only [go_sem,↓reduceIte,hsp,← eG0,g0,t0]|refine WP_drw ?_|refine cnd_intro (fun hsp=>?_) fun hsp=>?_)
  refine fI ?_ x0
  unfold chkR
  rw [if_pos (.inl c0)]
end Go.AM
namespace Go.AM
open Go.Proofs.Tryz
attribute [-go_sem] put_ne put_same
attribute [local go_sem ↓] put_if
theorem blB_nil:blB []=List.replicate 60 (.bool false):=by
 refine List.ext_getElem? fun i=>?_
 by_cases hi:i<60
 ·rw [blB_at hi,List.getElem?_replicate,if_pos hi];simp
 ·rw [List.getElem?_eq_none (by rw [blB_len];omega),List.getElem?_eq_none (by simp;omega)]
theorem bdD {L:Int} {fv wv:AVal}:buildA prog 169 [(0,.agg [.int .i64 L,fv,wv])]=some (.agg (.int .i64 L :: fv :: wv :: blB [])):=by
 have e:=Fc.bd169_0 (y0_0:=.int .i64 L) (y0_1:=fv) (y0_2:=wv)
 rw [e,blB_nil];rfl
theorem run_worked {base:Nat} {h:Heap} {v:AVal} {R:Rib} (hb:base≤h.length) (hA:RibAt h v R) (hR:RibOk R) :
  Ret prog raw base (.fn 107 [] []) [v] h (fun w H=>Ext h H∧∃ id,w=.ptr (some ⟨id,0,0⟩)∧h.length≤id∧DskAt H id R):=by
 obtain ⟨fv,wv,rfl,hF,hW⟩:=hA
 have o1:=hF.one
 have o2:=hW.one
 obtain ⟨G0,eG0⟩:∃ G0,G0=h++[ribB R.L fv wv]:=⟨_,rfl⟩
 have x0:Ext h G0:=by rw [eG0];exact .app .refl
 have g0:G0[h.length]?=some (ribB R.L fv wv):=by rw [eG0];exact get_eq rfl
 have l0:G0.length=h.length+1:=by rw [eG0];simp
 have eG1:∀ F,G0++[(⟨.cells (.int .i64 R.L :: fv :: wv :: blB F) 169 false false,0⟩:ABlk)]=G0++[dskB R.L fv wv F]:=fun _=>rfl
 have bd:=bdD (L:=R.L) (fv:=fv) (wv:=wv)
 have hn1:∀ F,lenOpA prog (G0++[dskB R.L fv wv F]) 32 fv=some (.int .i64 (R.F.length:Int)):=fun F=>lenI (hF.ext (x0.trans (.app .refl)))
 have hL:=hR.L
 have hnF:=hR.nF
 unfold ribB at eG0 g0
 refine ret_raw func107 rfl (by kernel_rfl) ?_
 have hsp:=@Nat.succ_ne_zero;repeat' (first|simp (disch:=first|exact dq|fail) only [go_sem,↓reduceIte,hsp,← eG0,g0,bd,eG1,hn1]|refine WP_drw ?_|refine cnd_intro (fun hsp=>?_) fun hsp=>?_)
 refine WP_count [(5,5),(12,21)] 0 R.F.length (Nat.zero_le _) (fun _ i fr H=>fr 12=.int .i64 (i:Int)∧H=G0++[dskB R.L fv wv (R.F.take i)]) ?_ ?_ ?_
 ·exact ⟨by (simp (disch:=first|exact dq|fail) only [go_sem,↓reduceIte,Int.natCast_zero];first|done|rfl),by simp⟩
 ·rintro i fr H hi0 hi hA ⟨r12,rfl⟩
  have p2:=hA 2 rfl
  have p3:=hA 3 rfl
  have p10:=hA 10 rfl
  have p11:=hA 11 rfl
  try simp (disch:=first|exact dq|fail) only [go_sem,↓reduceIte] at p2 p3 p10 p11
  have hlt:((i:Int)<(R.F.length:Int))=True:=eq_true (by omega)
  have iF:=hF.ext (x0.trans (.app (t:=[dskB R.L fv wv (R.F.take i)]) .refl))
  have hl0:=loadI iF hi
  have ha0:=adrI (i:=(i:Int)) (by omega) iF (by omega)
  rw [Int.toNat_natCast] at ha0
  have hu:=hR.F _ (getD_mem' (d:=0) hi)
  obtain ⟨u,eu⟩:=Int.eq_ofNat_of_zero_le hu.1
  rw [eu] at hl0 hu
  have hu60:u<60:=by omega
  have e3:3+(u:Int).toNat * 1=3+u:=by omega
  have g1:(G0++[dskB R.L fv wv (R.F.take i)])[G0.length]?=some (dskB R.L fv wv (R.F.take i)):=get_eq rfl
  have st:∀ {F:ABlk→Heap},stQ base G0.length (some (dskB R.L fv wv (R.F.take i))) 0 (3+u) [.bool true] F=some (F (dskB R.L fv wv (R.F.take i++[(u:Int)]))):=fun {F}=>dsk_st (by omega) hu60
  have hsp:=@Nat.succ_ne_zero;repeat' (first|simp (disch:=first|exact dq|fail) only [go_sem,↓reduceIte,hsp,r12,p2,p3,p10,p11,hlt,ha0,hl0,e3,g1,st]|refine WP_drw ?_|refine cnd_intro (fun hsp=>?_) fun hsp=>?_)
  refine ⟨agq,by omega,?_⟩
  rw [List.take_add_one,getD_some (d:=0) hi,eu];rfl
 ·rintro fr H hA ⟨r12,rfl⟩
  have p2:=hA 2 rfl
  have p3:=hA 3 rfl
  have p10:=hA 10 rfl
  have p11:=hA 11 rfl
  try simp (disch:=first|exact dq|fail) only [go_sem,↓reduceIte] at p2 p3 p10 p11
  have hlt:((R.F.length:Int)<(R.F.length:Int))=False:=eq_false (by omega)
  rw [List.take_length]
  have hsp:=@Nat.succ_ne_zero;repeat' (first|simp (disch:=first|exact dq|fail) only [go_sem,↓reduceIte,hsp,r12,p2,p3,p10,p11,hlt]|refine WP_drw ?_|refine cnd_intro (fun hsp=>?_) fun hsp=>?_)
  have x1:Ext h (G0++[dskB R.L fv wv R.F]):=x0.trans (.app .refl)
  exact ⟨x1,_,rfl,by omega,fv,wv,get_eq rfl,hF.ext x1,hW.ext x1⟩
theorem run_opened {base:Nat} {h:Heap} {v:AVal} {R:Rib} (hb:base≤h.length) (hA:RibAt h v R) (hsm:R.F.length≤1048576) :
  Ret prog raw base (.fn 37 [] []) [v] h (fun w H=>Ext h H∧(chkR R ≠ 0→w=.tuple [.ptr none,.int .i64 (chkR R)])∧(chkR R=0→∃ id,w=.tuple [.ptr (some ⟨id,0,0⟩),.int .i64 0]∧h.length≤id∧DskAt H id R)):=by
 have hAe:=fun H (e:Ext h H)=>hA.ext e
 obtain ⟨fv,wv,rfl,hF,hW⟩:=hA
 have o1:=hF.one
 have o2:=hW.one
 obtain ⟨G0,eG0⟩:∃ G0,G0=h++[ribB R.L fv wv]:=⟨_,rfl⟩
 have x0:Ext h G0:=by rw [eG0];exact .app .refl
 have g0:G0[h.length]?=some (ribB R.L fv wv):=by rw [eG0];exact get_eq rfl
 have l0:G0.length=h.length+1:=by rw [eG0];simp
 have hA0:=hAe G0 x0
 have hck0:=fun base=>run_Check (base:=base) hA0 hsm
 unfold ribB at eG0 g0
 by_cases c0:chkR R=0
 ·rw [c0] at hck0
  obtain ⟨w1,H1,e1,x1,id,rfl,hid,hD⟩:=run_worked (base:=base) (by omega) hA0 (chkR_iff.1 c0)
  refine ret_raw func37 rfl (by kernel_rfl) ?_
  have hsp:=@Nat.succ_ne_zero;repeat' (first|simp (disch:=first|exact dq|fail) only [go_sem,↓reduceIte,hsp,← eG0,g0,hck0,e1]|refine WP_drw ?_|refine cnd_intro (fun hsp=>?_) fun hsp=>?_)
  exact ⟨x0.trans x1,fun q=>absurd c0 q,fun _=>⟨id,rfl,by omega,hD⟩⟩
 ·have t0:(chkR R=0)=False:=eq_false c0
  refine ret_raw func37 rfl (by kernel_rfl) ?_
  have hsp:=@Nat.succ_ne_zero;repeat' (first|simp (disch:=first|exact dq|fail) only [go_sem,↓reduceIte,hsp,← eG0,g0,hck0,t0]|refine WP_drw ?_|refine cnd_intro (fun hsp=>?_) fun hsp=>?_)
  refine ⟨x0,?_,?_⟩<;>first|trivial|exact fun _=>rfl|exact fun q=>q.elim|exact fun q=>absurd q c0
end Go.AM
namespace Go.AM
section
variable {α β:Type} {E:Enc α} {E2:Enc β} {P:Program} {base b b2 k:Nat} {h H:Heap} {v w x:AVal} {l m:List α} {l2:List β} {t e e2:TypeId} {zs:List AVal}
def snV (h:Heap) (v:AVal) (k:Nat):AVal:=match v with
 | .slice (some r) n _=>.slice (some ⟨r.id,r.ver+1,0⟩) (n+k) (n+k)
 | _=>.slice (some ⟨h.length,0,0⟩) k k
def snH (E:Enc α) (e:TypeId) (h:Heap) (v:AVal) (l m:List α):Heap:=match v with
 | .slice (some r) _ _=>h.set r.id (rowE E e (l++m) (r.ver+1))
 | _=>h++[rowE E e m 0]
def Asun (v w:AVal):Prop:=∀ r n c s k d,v=.slice (some r) n c→w=.slice (some s) k d→r.id ≠ s.id
theorem Asun.symm (x:Asun v w):Asun w v:=fun r n c s k d a b q=>x s k d r n c b a q.symm
theorem Asun.nil:Asun v (.slice none 0 0):=fun _ _ _ _ _ _ _ q=>by cases q
theorem snV_one:One (snV h v k):=by unfold snV;split<;>exact ⟨rfl,rfl,rfl⟩
theorem snH_len:h.length≤(snH E e h v l m).length:=by unfold snH;split<;>simp
theorem app_sn (hO:Own E e b h v l) (ht:elS P t=some (e,E.z,zs)) (hs:∀ y,(E.cells y).all AVal.scalar=true) (hb:base≤b) (hm:0<m.length) (hsz:l.length+m.length<2147483648)
  (hx1:lenA E.z x=some m.length) (hx2:firstN h E.z m.length x=some (flat E m)):appendA P base h t v x=some (snV h v m.length,snH E e h v l m):=by
 rcases hO with ⟨rfl,rfl⟩|⟨id,ver,rfl,h1,h2,h3⟩
 ·simp only [appendA,ht,hx1,hx2,flat_scalar hs,if_true]
  rw [if_neg (by omega),if_pos (show m.length<2 ^ 31 by simp at hsz;omega)]
  rfl
 ·simp only [appendA,ht,hx1,hx2,flat_scalar hs,if_true]
  rw [if_neg (by omega),h1]
  simp only [rowE,flat_len]
  rw [if_pos ⟨trivial,trivial,trivial,trivial,show l.length+m.length<2 ^ 31 from hsz,h3,.inl (by omega)⟩]
  rw [List.take_of_length_le (by rw [flat_len];exact Nat.le_refl _),← flat_app]
  rfl
theorem app_sn1 {y:α} {a:AVal} (hO:Own E e b h v l) (hz:E.z=1) (hy:E.cells y=[a]) (ht:elS P t=some (e,1,zs)) (hs:∀ y,(E.cells y).all AVal.scalar=true) (hb:base≤b) (hsz:l.length+1<2147483648) :
  appendA P base h t v (.vals [a])=some (snV h v 1,snH E e h v l [y]):=by
 refine app_sn (m:=[y]) hO (by rw [hz];exact ht) hs hb (by simp) (by simpa using hsz) ?_ ?_
 ·rw [hz];rfl
 ·rw [hz];simp [firstN,flat,hy]
theorem Own.sn (hO:Own E e b h v l) (hbh:b≤h.length) (hm:0<m.length):Own E e b (snH E e h v l m) (snV h v m.length) (l++m):=by
 rcases hO with ⟨rfl,rfl⟩|⟨id,ver,rfl,h1,h2,h3⟩
 ·exact .inr ⟨h.length,0,by simp [snV],get_eq rfl,hbh,by simpa using hm⟩
 ·exact .inr ⟨id,ver+1,by simp [snV],by unfold snH;simp only;rw [List.getElem?_set_self (lt_of_get h1)],h2,by simp;omega⟩
theorem Own.sn_ext (hO:Own E e b h v l) (hG:H.length≤b) (g:Ext H h):Ext H (snH E e h v l m):=by
 rcases hO with ⟨rfl,rfl⟩|⟨id,ver,rfl,h1,h2,h3⟩
 ·exact .app g
 ·exact g.set (show H.length≤id by omega)
theorem Own.sn_oth (hO:Own E2 e2 b2 h w l2) (hA:Asun v w):Own E2 e2 b2 (snH E e h v l m) w l2:=by
 unfold snH
 split
 ·rename_i r n c
  rcases hO with ⟨rfl,rfl⟩|⟨id,ver,rfl,h1,h2,h3⟩
  ·exact .nil
  ·exact .inr ⟨id,ver,rfl,by rw [List.getElem?_set_ne (hA _ _ _ _ _ _ rfl rfl)];exact h1,h2,h3⟩
 ·exact hO.app
theorem Own.sn_asun (hO:Own E2 e2 b2 h w l2) (hA:Asun v w):Asun (snV h v k) w:=by
 intro r n c s i d q1 q2
 unfold snV at q1
 split at q1
 ·rename_i r' n' c'
  simp only [AVal.slice.injEq,Option.some.injEq] at q1
  obtain ⟨q1,_,_⟩:=q1
  rw [← q1]
  exact hA r' n' c' _ _ _ rfl q2
 ·simp only [AVal.slice.injEq,Option.some.injEq] at q1
  obtain ⟨rfl,_,_⟩:=q1
  rcases hO with ⟨rfl,rfl⟩|⟨id,ver,rfl,h1,h2,h3⟩
  ·cases q2
  ·simp only [AVal.slice.injEq,Option.some.injEq] at q2
   obtain ⟨rfl,_,_⟩:=q2
   have:=lt_of_get h1
   show h.length ≠ id
   omega
end
theorem WP_cmeet {P:Program} {raw:FuncId→Bool} {base:Nat} {c:Code} {id:Nat} {FR:AFrame} {H:Heap} {Q:AExit→St→Prop} (mod:List (Nat × Nat)) (a N:Nat) (haN:a≤N) (J:Heap→Nat→AFrame→Heap→Prop) (X:AFrame→Heap→Prop) (h0:J H a FR H)
  (step:∀ i fr h,a≤i→i<N→Agree mod fr FR→J H i fr h→WP P raw base c ⟨fr,h⟩ (thenQ (fun s'=>Agree mod s'.fr FR∧J H (i+1) s'.fr s'.h) (inBlockQ id (thenQ (fun s'=>Agree mod s'.fr FR∧X s'.fr s'.h) Q))))
  (last:∀ fr h,Agree mod fr FR→J H N fr h→WP P raw base c ⟨fr,h⟩ (thenQ (fun _=>False) (inBlockQ id (thenQ (fun s'=>Agree mod s'.fr FR∧X s'.fr s'.h) Q))))
  (k:∀ fr h,Agree mod fr FR→X fr h→Q .normal ⟨fr,h⟩):WP P raw base (.loop c) ⟨FR,H⟩ (inBlockQ id Q):=by
 have key:∀ e s',inBlockQ id (thenQ (fun s'=>Agree mod s'.fr FR∧X s'.fr s'.h) Q) e s'→inBlockQ id Q e s':=fun e s' hq=>by
  cases e with
  | normal=>exact k _ _ hq.1 hq.2
  | ret=>exact hq
  | exit id' =>
   simp only [inBlockQ] at hq ⊢
   split
   ·rename_i c;rw [if_pos c] at hq;exact k _ _ hq.1 hq.2
   ·rename_i c;rw [if_neg c] at hq;exact hq
 refine WP_count mod a N haN J h0 (fun i fr h h1 h2 h3 h4=>?_) fun fr h h3 h4=>?_
 ·obtain ⟨e,s',h5,h6⟩:=step i fr h h1 h2 h3 h4
  refine ⟨e,s',h5,?_⟩
  cases e with
  | normal=>exact h6
  | ret=>exact key .ret s' h6
  | exit id'=>exact key (.exit id') s' h6
 ·obtain ⟨e,s',h5,h6⟩:=last fr h h3 h4
  refine ⟨e,s',h5,?_⟩
  cases e with
  | normal=>exact h6
  | ret=>exact key .ret s' h6
  | exit id'=>exact key (.exit id') s' h6
end Go.AM
namespace Go.AM
open Go.Proofs.Tryz
attribute [-go_sem] put_ne put_same
attribute [local go_sem ↓] put_if
abbrev cutB (c:Ct):ABlk:=⟨.cells [.int .i64 c.w,.int .i64 c.f,.bool c.j] 57 false false,0⟩
def uniO (R:Rib) (w:Wnt) (x:Nat) (j:Bool):List Int × Int:=if (j && badF R x)=true then ([],0) else uniP R w x j
theorem unL_at {bad:Nat→Bool} {j:Bool} {lg:Int} {L i:Nat} {o:List Int} {f:Int} (hi:i<L):unL bad j lg (L-i) i o f=if (o.length:Int)<lg then unL bad j lg (L-(i+1)) (i+1) (unS bad j i o f).1 (unS bad j i o f).2 else (o,f):=by
 rw [show L-i=(L-(i+1))+1 by omega,unL]
theorem unK_small {x lim u:Nat} {lg:Int} {o:List Int} {f:Int} (h:UnK x lim lg u o f) (hu:u≤60):Small o:=⟨by have:=h.n;omega,fun y hy=>by have:=h.b y hy;omega⟩
theorem UnK.mono {x lim u u':Nat} {lg:Int} {o:List Int} {f:Int} (h:UnK x lim lg u o f) (hu:u≤u'):UnK x lim lg u' o f:=⟨h.p,fun y hy=>by have:=h.b y hy;omega,by have:=h.n;omega,h.g,h.f⟩
set_option maxRecDepth 100000 in
set_option maxHeartbeats 4000000 in
theorem run_units {base id:Nat} {h:Heap} {R:Rib} {k x:Nat} {j:Bool} {w:Wnt} (hb:base≤h.length) (hD:DskAt h id R) (hR:RibOk R) (hw:R.W[k]?=some w) (hx:x<R.L.toNat) :
  Ret prog raw base (.fn 116 [] []) [.ptr (some ⟨id,0,0⟩),.agg [.int .i64 (k:Int),.int .i64 (x:Int),.bool j]] h (fun v H=>Ext h H∧∃ ov,v=.tuple [ov,.int .i64 (uniO R w x j).2,.bool (okT R w x j)]∧Own encI 3 h.length H ov (uniO R w x j).1):=by
 obtain ⟨fv,wv,gd,hF,hW⟩:=hD
 have hL:=hR.L
 have hk:=(List.getElem?_eq_some_iff.1 hw).1
 have hwk:=hR.W w (List.mem_of_getElem? hw)
 have hlg:=hwk.lg
 have lid:=lt_of_get gd
 obtain ⟨G,eG⟩:∃ G,G=h++[cutB ⟨k,x,j⟩]:=⟨_,rfl⟩
 have xG:Ext h G:=by rw [eG];exact .app .refl
 have gc:G[h.length]?=some (cutB ⟨k,x,j⟩):=by rw [eG];exact get_eq rfl
 have lG:G.length=h.length+1:=by rw [eG];simp
 have gdG:=xG.get gd
 have hx60:x<60:=by omega
 have dL:=fun z=>dsk_ld0 (L:=R.L) (fv:=fv) (wv:=wv) (F:=R.F) (z:=z)
 have dW:=fun z=>dsk_ld2 (L:=R.L) (fv:=fv) (wv:=wv) (F:=R.F) (z:=z)
 have dX:=fun z=>dsk_ldu (L:=R.L) (fv:=fv) (wv:=wv) (F:=R.F) (z:=z) hx60
 have ebx:decide ((x:Int) ∈ R.F)=badF R x:=rfl
 rw [ebx] at dX
 unfold cutB at eG gc
 refine ret_raw func116 rfl (by kernel_rfl) ?_
 rcases Bool.eq_false_or_eq_true (j && badF R x) with hj|hj
 ·obtain ⟨rfl,hbx⟩:=Bool.and_eq_true_iff.1 hj
  rw [hbx] at dX
  have hsp:=@Nat.succ_ne_zero;repeat' (first|simp (disch:=first|exact dq|fail) only [go_sem,↓reduceIte,hsp,← eG,gc,gdG,dX]|refine WP_drw ?_|refine cnd_intro (fun hsp=>?_) fun hsp=>?_)
  have e1:uniO R w x true=([],0):=by unfold uniO;rw [if_pos hj]
  have e2:okT R w x true=false:=by unfold okT;rw [hj];rfl
  rw [e1,e2]
  exact ⟨xG,_,rfl,Own.nil⟩
 ·have e1:uniO R w x j=uniP R w x j:=by unfold uniO;rw [if_neg (by rw [hj];simp)]
  have e2:okT R w x j=decide (((uniP R w x j).1.length:Int)=w.lg):=by unfold okT;rw [hj];rfl
  rw [e1,e2]
  have st:∀ (J':Bool),J'=j→(J'=true→badF R x=false):=fun J' q z=>by subst q;rw [z] at hj;simpa using hj
  rcases Bool.eq_false_or_eq_true j with hjj|hjj
  ·subst hjj
   have hbx:=st true rfl rfl
   rw [hbx] at dX
   have hsp:=@Nat.succ_ne_zero;repeat' (first|simp (disch:=first|exact dq|fail) only [go_sem,↓reduceIte,hsp,← eG,gc,gdG,dX]|refine WP_drw ?_|refine cnd_intro (fun hsp=>?_) fun hsp=>?_)
   refine WP_cmeet [(7,88)] x R.L.toNat (Nat.le_of_lt hx) (fun _ i fr H=>fr 9=.int .i64 (i:Int)∧∃ ov o f,fr 7=ov∧fr 8=.int .i64 f∧Ext G H∧Own encI 3 G.length H ov o∧unL (badF R) true w.lg (R.L.toNat-i) i o f=uniP R w x true∧UnK x 0 w.lg i o f) (fun fr H=>∃ ov,fr 7=ov∧fr 8=.int .i64 (uniP R w x true).2∧Ext G H∧Own encI 3 G.length H ov (uniP R w x true).1∧UnK x 0 w.lg R.L.toNat (uniP R w x true).1 (uniP R w x true).2) ?_ ?_ ?_ ?_
   ·exact ⟨by (simp (disch:=first|exact dq|fail) only [go_sem,↓reduceIte,Int.natCast_zero];first|done|rfl),_,_,_,by simp (disch:=first|exact dq|fail) only [go_sem,↓reduceIte],by simp (disch:=first|exact dq|fail) only [go_sem,↓reduceIte],.refl,Own.nil,rfl,UnK.start⟩
   ·rintro i fr H hi0 hi hA ⟨r9,ov,o,f,r7,r8,xH,hO,hun,hK⟩
    have p0:=hA 0 rfl
    have p3:=hA 3 rfl
    have p4:=hA 4 rfl
    have p5:=hA 5 rfl
    have p6:=hA 6 rfl
    try simp (disch:=first|exact dq|fail) only [go_sem,↓reduceIte] at p0 p3 p4 p5 p6
    have gdH:=xH.get gdG
    have gcH:=xH.get gc
    have lH:=xH.len
    have hsm:=unK_small hK (by omega)
    have iO:=own_ints hO hsm
    have hno:=lenI iO
    have oO:=hO.one
    have iW:=hW.ext (xG.trans xH)
    have a1:=wnt_ad iW hk
    have a2:=wnt_f0 iW hk
    have a3:=wnt_l0 iW hw
    have hlt:((i:Int)<R.L)=True:=eq_true (by omega)
    have hi60:i<60:=by omega
    have dI:=fun z=>dsk_ldu (L:=R.L) (fv:=fv) (wv:=wv) (F:=R.F) (z:=z) hi60
    have ebi:decide ((i:Int) ∈ R.F)=badF R i:=rfl
    rw [ebi] at dI
    by_cases c1:(o.length:Int)<w.lg
    ·have t1:((o.length:Int)<w.lg)=True:=eq_true c1
     have hK2:=hK.step (j:=true) (bad:=badF R) c1
     rw [unL_at hi,if_pos c1] at hun
     have hol:=hK.n
     obtain ⟨ov',H',ea,oO',l',e',on'⟩:=hO.append1 (P:=prog) (y:=(i:Int)) (a:=.int .i64 (i:Int)) (base:=base) (t:=32) rfl rfl Fc.el32 encI_sc (show base≤G.length by omega) lH (by omega)
     have xH2:=e' G (Nat.le_refl _) xH
     rcases Bool.eq_false_or_eq_true (badF R i) with qb|qb
     ·rw [qb] at dI
      have eS:unS (badF R) true i o f=(o,f):=by unfold unS;rw [qb];rfl
      rw [eS] at hun hK2
      have hsp:=@Nat.succ_ne_zero;repeat' (first|simp (disch:=first|exact dq|fail) only [go_sem,↓reduceIte,hsp,r9,r7,r8,p0,p3,p4,p5,p6,gdH,gcH,dL,dW,dI,hlt,hno,a1,a2,a3,t1]|refine WP_drw ?_|refine cnd_intro (fun hsp=>?_) fun hsp=>?_)
      exact ⟨agq,by omega,ov,o,f,rfl,rfl,xH,hO,hun,hK2⟩
     ·rw [qb] at dI
      have hf:=hK.f
      by_cases c2:(o.length:Int) > 0
      ·have t2:((o.length:Int) > 0)=True:=eq_true c2
       have el:((o.length:Int)-1).toNat=o.length-1:=by omega
       have al:=adrI (i:=(o.length:Int)-1) (by omega) iO (by omega)
       rw [el] at al
       have ll:=loadI iO (i:=o.length-1) (by omega)
       have hlb:=hK.b _ (getD_mem' (l:=o) (d:=0) (i:=o.length-1) (by omega))
       by_cases c3:o.getD (o.length-1) 0<(i:Int)-1
       ·have t3:(o.getD (o.length-1) 0<(i:Int)-1)=True:=eq_true c3
        have eS:unS (badF R) true i o f=(o++[(i:Int)],f+1):=by
         unfold unS gapB;rw [qb,decide_eq_true c3,decide_eq_true (by omega:0<o.length)];rfl
        rw [eS] at hun hK2
        have hsp:=@Nat.succ_ne_zero;repeat' (first|simp (disch:=first|exact dq|fail) only [go_sem,↓reduceIte,hsp,r9,r7,r8,p0,p3,p4,p5,p6,gdH,gcH,dL,dW,dI,hlt,hno,a1,a2,a3,t1,t2,al,ll,t3,ea]|refine WP_drw ?_|refine cnd_intro (fun hsp=>?_) fun hsp=>?_)
        exact ⟨agq,by omega,ov',o++[(i:Int)],f+1,rfl,rfl,xH2,oO',hun,hK2⟩
       ·have t3:(o.getD (o.length-1) 0<(i:Int)-1)=False:=eq_false c3
        have eS:unS (badF R) true i o f=(o++[(i:Int)],f):=by
         unfold unS gapB;rw [qb,decide_eq_false c3,Bool.and_false,Bool.and_false];rfl
        rw [eS] at hun hK2
        have hsp:=@Nat.succ_ne_zero;repeat' (first|simp (disch:=first|exact dq|fail) only [go_sem,↓reduceIte,hsp,r9,r7,r8,p0,p3,p4,p5,p6,gdH,gcH,dL,dW,dI,hlt,hno,a1,a2,a3,t1,t2,al,ll,t3,ea]|refine WP_drw ?_|refine cnd_intro (fun hsp=>?_) fun hsp=>?_)
        exact ⟨agq,by omega,ov',o++[(i:Int)],f,rfl,rfl,xH2,oO',hun,hK2⟩
      ·have t2:((o.length:Int) > 0)=False:=eq_false c2
       have eS:unS (badF R) true i o f=(o++[(i:Int)],f):=by
        unfold unS gapB;rw [qb,decide_eq_false (by omega:¬ 0<o.length)];rfl
       rw [eS] at hun hK2
       have hsp:=@Nat.succ_ne_zero;repeat' (first|simp (disch:=first|exact dq|fail) only [go_sem,↓reduceIte,hsp,r9,r7,r8,p0,p3,p4,p5,p6,gdH,gcH,dL,dW,dI,hlt,hno,a1,a2,a3,t1,t2,ea]|refine WP_drw ?_|refine cnd_intro (fun hsp=>?_) fun hsp=>?_)
       exact ⟨agq,by omega,ov',o++[(i:Int)],f,rfl,rfl,xH2,oO',hun,hK2⟩
    ·have t1:((o.length:Int)<w.lg)=False:=eq_false c1
     rw [unL_at hi,if_neg c1] at hun
     have hsp:=@Nat.succ_ne_zero;repeat' (first|simp (disch:=first|exact dq|fail) only [go_sem,↓reduceIte,hsp,r9,r7,r8,p0,p3,p4,p5,p6,gdH,gcH,dL,dW,hlt,hno,a1,a2,a3,t1]|refine WP_drw ?_|refine cnd_intro (fun hsp=>?_) fun hsp=>?_)
     rw [← hun]
     exact ⟨agq,ov,rfl,rfl,xH,hO,hK.mono (by omega)⟩
   ·rintro fr H hA ⟨r9,ov,o,f,r7,r8,xH,hO,hun,hK⟩
    have p0:=hA 0 rfl
    have p3:=hA 3 rfl
    have p4:=hA 4 rfl
    have p5:=hA 5 rfl
    have p6:=hA 6 rfl
    try simp (disch:=first|exact dq|fail) only [go_sem,↓reduceIte] at p0 p3 p4 p5 p6
    have gdH:=xH.get gdG
    have lH:=xH.len
    have hlt:(((R.L.toNat:Nat):Int)<R.L)=False:=eq_false (by omega)
    rw [Nat.sub_self,unL] at hun
    have hsp:=@Nat.succ_ne_zero;repeat' (first|simp (disch:=first|exact dq|fail) only [go_sem,↓reduceIte,hsp,r9,r7,r8,p0,p3,p4,p5,p6,gdH,dL,hlt]|refine WP_drw ?_|refine cnd_intro (fun hsp=>?_) fun hsp=>?_)
    rw [← hun]
    exact ⟨agq,ov,rfl,rfl,xH,hO,hK⟩
   ·rintro fr H hA ⟨ov,r7,r8,xH,hO,hK⟩
    have p0:=hA 0 rfl
    have p3:=hA 3 rfl
    have p4:=hA 4 rfl
    have p5:=hA 5 rfl
    have p6:=hA 6 rfl
    try simp (disch:=first|exact dq|fail) only [go_sem,↓reduceIte] at p0 p3 p4 p5 p6
    have gdH:=xH.get gdG
    have gcH:=xH.get gc
    have lH:=xH.len
    have iO:=own_ints hO (unK_small hK (by omega))
    have hno:=lenI iO
    have oO:=hO.one
    have iW:=hW.ext (xG.trans xH)
    have a1:=wnt_ad iW hk
    have a2:=wnt_f0 iW hk
    have a3:=wnt_l0 iW hw
    have hsp:=@Nat.succ_ne_zero;repeat' (first|simp (disch:=first|exact dq|fail) only [go_sem,↓reduceIte,hsp,r7,r8,p0,p3,p4,p5,p6,gdH,gcH,dL,dW,hno,a1,a2,a3]|refine WP_drw ?_|refine cnd_intro (fun hsp=>?_) fun hsp=>?_)
    exact ⟨xG.trans xH,_,rfl,hO.low (by omega)⟩
  ·subst hjj
   have hsp:=@Nat.succ_ne_zero;repeat' (first|simp (disch:=first|exact dq|fail) only [go_sem,↓reduceIte,hsp,← eG,gc,gdG]|refine WP_drw ?_|refine cnd_intro (fun hsp=>?_) fun hsp=>?_)
   refine WP_cmeet [(7,88)] x R.L.toNat (Nat.le_of_lt hx) (fun _ i fr H=>fr 9=.int .i64 (i:Int)∧∃ ov o f,fr 7=ov∧fr 8=.int .i64 f∧Ext G H∧Own encI 3 G.length H ov o∧unL (badF R) false w.lg (R.L.toNat-i) i o f=uniP R w x false∧UnK x 0 w.lg i o f) (fun fr H=>∃ ov,fr 7=ov∧fr 8=.int .i64 (uniP R w x false).2∧Ext G H∧Own encI 3 G.length H ov (uniP R w x false).1∧UnK x 0 w.lg R.L.toNat (uniP R w x false).1 (uniP R w x false).2) ?_ ?_ ?_ ?_
   ·exact ⟨by (simp (disch:=first|exact dq|fail) only [go_sem,↓reduceIte,Int.natCast_zero];first|done|rfl),_,_,_,by simp (disch:=first|exact dq|fail) only [go_sem,↓reduceIte],by simp (disch:=first|exact dq|fail) only [go_sem,↓reduceIte],.refl,Own.nil,rfl,UnK.start⟩
   ·rintro i fr H hi0 hi hA ⟨r9,ov,o,f,r7,r8,xH,hO,hun,hK⟩
    have p0:=hA 0 rfl
    have p3:=hA 3 rfl
    have p4:=hA 4 rfl
    have p5:=hA 5 rfl
    have p6:=hA 6 rfl
    try simp (disch:=first|exact dq|fail) only [go_sem,↓reduceIte] at p0 p3 p4 p5 p6
    have gdH:=xH.get gdG
    have gcH:=xH.get gc
    have lH:=xH.len
    have hsm:=unK_small hK (by omega)
    have iO:=own_ints hO hsm
    have hno:=lenI iO
    have oO:=hO.one
    have iW:=hW.ext (xG.trans xH)
    have a1:=wnt_ad iW hk
    have a2:=wnt_f0 iW hk
    have a3:=wnt_l0 iW hw
    have hlt:((i:Int)<R.L)=True:=eq_true (by omega)
    have hi60:i<60:=by omega
    have dI:=fun z=>dsk_ldu (L:=R.L) (fv:=fv) (wv:=wv) (F:=R.F) (z:=z) hi60
    have ebi:decide ((i:Int) ∈ R.F)=badF R i:=rfl
    rw [ebi] at dI
    by_cases c1:(o.length:Int)<w.lg
    ·have t1:((o.length:Int)<w.lg)=True:=eq_true c1
     have hK2:=hK.step (j:=false) (bad:=badF R) c1
     rw [unL_at hi,if_pos c1] at hun
     have hol:=hK.n
     obtain ⟨ov',H',ea,oO',l',e',on'⟩:=hO.append1 (P:=prog) (y:=(i:Int)) (a:=.int .i64 (i:Int)) (base:=base) (t:=32) rfl rfl Fc.el32 encI_sc (show base≤G.length by omega) lH (by omega)
     have xH2:=e' G (Nat.le_refl _) xH
     have hf:=hK.f
     rcases Bool.eq_false_or_eq_true (badF R i) with qb|qb
     ·rw [qb] at dI
      have eS:unS (badF R) false i o f=(o++[(i:Int)],f+1):=by unfold unS;rw [qb];rfl
      rw [eS] at hun hK2
      have hsp:=@Nat.succ_ne_zero;repeat' (first|simp (disch:=first|exact dq|fail) only [go_sem,↓reduceIte,hsp,r9,r7,r8,p0,p3,p4,p5,p6,gdH,gcH,dL,dW,dI,hlt,hno,a1,a2,a3,t1,ea]|refine WP_drw ?_|refine cnd_intro (fun hsp=>?_) fun hsp=>?_)
      exact ⟨agq,by omega,ov',o++[(i:Int)],f+1,rfl,rfl,xH2,oO',hun,hK2⟩
     ·rw [qb] at dI
      have eS:unS (badF R) false i o f=(o++[(i:Int)],f):=by unfold unS;rw [qb];rfl
      rw [eS] at hun hK2
      have hsp:=@Nat.succ_ne_zero;repeat' (first|simp (disch:=first|exact dq|fail) only [go_sem,↓reduceIte,hsp,r9,r7,r8,p0,p3,p4,p5,p6,gdH,gcH,dL,dW,dI,hlt,hno,a1,a2,a3,t1,ea]|refine WP_drw ?_|refine cnd_intro (fun hsp=>?_) fun hsp=>?_)
      exact ⟨agq,by omega,ov',o++[(i:Int)],f,rfl,rfl,xH2,oO',hun,hK2⟩
    ·have t1:((o.length:Int)<w.lg)=False:=eq_false c1
     rw [unL_at hi,if_neg c1] at hun
     have hsp:=@Nat.succ_ne_zero;repeat' (first|simp (disch:=first|exact dq|fail) only [go_sem,↓reduceIte,hsp,r9,r7,r8,p0,p3,p4,p5,p6,gdH,gcH,dL,dW,hlt,hno,a1,a2,a3,t1]|refine WP_drw ?_|refine cnd_intro (fun hsp=>?_) fun hsp=>?_)
     rw [← hun]
     exact ⟨agq,ov,rfl,rfl,xH,hO,hK.mono (by omega)⟩
   ·rintro fr H hA ⟨r9,ov,o,f,r7,r8,xH,hO,hun,hK⟩
    have p0:=hA 0 rfl
    have p3:=hA 3 rfl
    have p4:=hA 4 rfl
    have p5:=hA 5 rfl
    have p6:=hA 6 rfl
    try simp (disch:=first|exact dq|fail) only [go_sem,↓reduceIte] at p0 p3 p4 p5 p6
    have gdH:=xH.get gdG
    have lH:=xH.len
    have hlt:(((R.L.toNat:Nat):Int)<R.L)=False:=eq_false (by omega)
    rw [Nat.sub_self,unL] at hun
    have hsp:=@Nat.succ_ne_zero;repeat' (first|simp (disch:=first|exact dq|fail) only [go_sem,↓reduceIte,hsp,r9,r7,r8,p0,p3,p4,p5,p6,gdH,dL,hlt]|refine WP_drw ?_|refine cnd_intro (fun hsp=>?_) fun hsp=>?_)
    rw [← hun]
    exact ⟨agq,ov,rfl,rfl,xH,hO,hK⟩
   ·rintro fr H hA ⟨ov,r7,r8,xH,hO,hK⟩
    have p0:=hA 0 rfl
    have p3:=hA 3 rfl
    have p4:=hA 4 rfl
    have p5:=hA 5 rfl
    have p6:=hA 6 rfl
    try simp (disch:=first|exact dq|fail) only [go_sem,↓reduceIte] at p0 p3 p4 p5 p6
    have gdH:=xH.get gdG
    have gcH:=xH.get gc
    have lH:=xH.len
    have iO:=own_ints hO (unK_small hK (by omega))
    have hno:=lenI iO
    have oO:=hO.one
    have iW:=hW.ext (xG.trans xH)
    have a1:=wnt_ad iW hk
    have a2:=wnt_f0 iW hk
    have a3:=wnt_l0 iW hw
    have hsp:=@Nat.succ_ne_zero;repeat' (first|simp (disch:=first|exact dq|fail) only [go_sem,↓reduceIte,hsp,r7,r8,p0,p3,p4,p5,p6,gdH,gcH,dL,dW,hno,a1,a2,a3]|refine WP_drw ?_|refine cnd_intro (fun hsp=>?_) fun hsp=>?_)
    exact ⟨xG.trans xH,_,rfl,hO.low (by omega)⟩
end Go.AM
namespace Go.AM
open Go.Proofs.Tryz
theorem dqc {p:Prop} (h:p:=by first|exact Nat.ne_of_beq_eq_false rfl|assumption|(apply asOne;(first|exact One.int|exact One.bool|assumption|exact Ints.one (by assumption)|exact Rows.one (by assumption)|exact Own.one (by assumption)|exact One.lit ⟨rfl,rfl,rfl⟩))|(apply asInts;(repeat first|assumption|exact ints_nil|apply Ints.app);done)|(apply asRows;(repeat first|assumption|exact Rows.nil|apply Rows.app);done)|(apply asScal;apply allS5<;>exact One.int) |(apply asScal;(first|apply allS1|apply allS2|apply allS3|apply allS4)<;>(first|exact One.int|exact One.bool|assumption|exact Ints.one (by assumption)|exact Rows.one (by assumption)|exact Own.one (by assumption)|exact One.lit ⟨rfl,rfl,rfl⟩))|exact litT rfl|exact litF rfl|omega|(simp only [List.length_append,List.length_cons,List.length_nil,List.length_set,List.length_reverse];first|done|omega)|fail):p:=h
attribute [-go_sem] put_ne put_same
attribute [local go_sem ↓] put_if
def takV:Option (Int × Int)→AVal
 | some e=>.tuple [.agg [.int .i64 e.1,.int .i64 e.2],.bool true]
 | none=>.tuple [.agg [.int .i64 0,.int .i64 0],.bool false]
abbrev wntBk (w:Wnt):ABlk:=⟨.cells [.int .i64 w.lg,.int .i64 w.pr,.int .i64 w.off,.int .i64 w.fl,.int .i64 w.jn] 50 false false,0⟩
set_option maxRecDepth 100000 in
set_option maxHeartbeats 4000000 in
theorem run_take {base id:Nat} {h:Heap} {R:Rib} {k x:Nat} {j:Bool} {w:Wnt} (hD:DskAt h id R) (hR:RibOk R) (hw:R.W[k]?=some w) (hx:x<R.L.toNat) :
  callL prog raw base (.fn 114 [] []) [.ptr (some ⟨id,0,0⟩),.agg [.int .i64 (k:Int),.int .i64 (x:Int),.bool j]] h=some (takV (takL R w x j),h):=by
 have hDe:=fun H (e:Ext h H)=>hD.ext e
 obtain ⟨fv,wv,gd,hF,hW⟩:=hD
 have hL:=hR.L
 have hk:=(List.getElem?_eq_some_iff.1 hw).1
 have hwk:=hR.W w (List.mem_of_getElem? hw)
 have hlg:=hwk.lg
 have hpr:=hwk.pr
 have hof:=hwk.off
 have hfl:=hwk.fl
 have hjn:=hwk.jn
 have lid:=lt_of_get gd
 obtain ⟨G,eG⟩:∃ G,G=h++[cutB ⟨k,x,j⟩]++[⟨.cells [.int .i64 0,.int .i64 0] 174 false false,0⟩]:=⟨_,rfl⟩
 have xG:Ext h G:=by rw [eG];exact .app (.app .refl)
 have gc:G[h.length]?=some (cutB ⟨k,x,j⟩):=by rw [eG];exact get_app (get_eq rfl)
 have gw:G[h.length+1]?=some ⟨.cells [.int .i64 0,.int .i64 0] 174 false false,0⟩:=by rw [eG];exact get_eq (by simp)
 have lG:G.length=h.length+2:=by rw [eG];simp
 obtain ⟨v1,H1,e1,x1,ov,rfl,hO⟩:=run_units (base:=h.length) (k:=k) (x:=x) (j:=j) (by omega) (hDe G xG) hR hw hx
 have gc1:=x1.get gc
 have gw1:=x1.get gw
 have gd1:=(xG.trans x1).get gd
 have l1:=x1.len
 have xh1:=xG.trans x1
 have iW:=hW.ext xh1
 have a1:=wnt_ad iW hk
 have a2:=wnt_ld iW hw
 have dW:=fun z=>dsk_ld2 (L:=R.L) (fv:=fv) (wv:=wv) (F:=R.F) (z:=z)
 obtain ⟨G2,eG2⟩:∃ G2,G2=H1++[wntBk w]:=⟨_,rfl⟩
 have x2:Ext H1 G2:=by rw [eG2];exact .app .refl
 have gw2:G2[H1.length]?=some (wntBk w):=by rw [eG2];exact get_eq rfl
 have gc2:=x2.get gc1
 have gv2:=x2.get gw1
 have l2:G2.length=H1.length+1:=by rw [eG2];simp
 have xh2:=xh1.trans x2
 have oO:=hO.one
 obtain ⟨u,hu1,hu2,hUK,_⟩:=uniP_k (w:=w) (j:=j) hR hx
 have hfb:0≤(uniO R w x j).2∧(uniO R w x j).2≤60∧Small (uniO R w x j).1:=by
  unfold uniO
  split
  ·exact ⟨by simp,by simp,by simp,fun y hy=>by simp at hy⟩
  ·have:=hUK.f;have:=hUK.n
   exact ⟨by omega,by omega,unK_small hUK (by omega)⟩
 obtain ⟨o,eo⟩:∃ o,o=(uniO R w x j).1:=⟨_,rfl⟩
 obtain ⟨f,ef⟩:∃ f,f=(uniO R w x j).2:=⟨_,rfl⟩
 rw [← eo,← ef] at hfb
 rw [← eo] at hO
 rw [← ef] at e1
 obtain ⟨hf0,hf1,hsm⟩:=hfb
 have hmul:0≤w.off * f∧w.off * f≤1200:=⟨Int.mul_nonneg hof.1 hf0,by
  have:=Int.mul_le_mul hof.2 hf1 hf0 (by omega:(0:Int)≤20)
  omega⟩
 have iO:=own_ints (hO.ext x2) hsm
 have hno:=lenI iO
 have xl:∀ q,q=j→limW w q=limW w j:=fun q e=>by rw [e]
 unfold cutB at eG gc gc1 gc2
 unfold wntBk at eG2 gw2
 have eG':h++[(⟨.cells [.int .i64 (k:Int),.int .i64 (x:Int),.bool j] 57 false false,0⟩:ABlk)]++[⟨.cells [.int .i64 0,.int .i64 0] 174 false false,0⟩]=G:=eG.symm
 refine callL_run func114 rfl rfl ?_
 cases hok:okT R w x j with
 | false =>
  rw [hok] at e1
  have et:takL R w x j=none:=by unfold takL;rw [if_neg (fun q=>by rw [hok] at q;exact Bool.noConfusion q.1)]
  rw [et]
  cases j with
  | true =>
   have hsp:=@Nat.succ_ne_zero;repeat' (first|simp (disch:=first|exact dqc|fail) only [go_sem,↓reduceIte,hsp,eG',gc,e1,gc1,gd1,dW,a1,a2,← eG2,gw2,gc2,gv2]|refine WP_drw ?_|refine cnd_intro (fun hsp=>?_) fun hsp=>?_)
   exact fin_pl rfl rfl (Ext.set xh2 (by omega))
  | false =>
   have hsp:=@Nat.succ_ne_zero;repeat' (first|simp (disch:=first|exact dqc|fail) only [go_sem,↓reduceIte,hsp,eG',gc,e1,gc1,gd1,dW,a1,a2,← eG2,gw2,gc2,gv2]|refine WP_drw ?_|refine cnd_intro (fun hsp=>?_) fun hsp=>?_)
   exact fin_pl rfl rfl (Ext.set xh2 (by omega))
 | true =>
  rw [hok] at e1
  have hj:(j && badF R x)=false:=by
   unfold okT at hok
   cases hq:(j && badF R x) with
   | false=>rfl
   | true=>rw [hq] at hok;cases hok
  have eu:uniO R w x j=uniP R w x j:=by unfold uniO;rw [if_neg (by rw [hj];simp)]
  have eo2:(uniP R w x j).1=o:=by rw [eo,eu]
  have ef2:(uniP R w x j).2=f:=by rw [ef,eu]
  have hlen:(o.length:Int)=w.lg:=by
   unfold okT at hok
   rw [eo2,Bool.and_eq_true] at hok
   exact of_decide_eq_true hok.2
  have el:((o.length:Int)-1).toNat=o.length-1:=by omega
  have al:=adrI (i:=(o.length:Int)-1) (by omega) iO (by omega)
  rw [el] at al
  have ll:=loadI iO (i:=o.length-1) (by omega)
  have hlb:0≤o.getD (o.length-1) 0∧o.getD (o.length-1) 0<60:=by
   have:=hUK.b (o.getD (o.length-1) 0) (by rw [eo2];exact getD_mem' (by omega))
   omega
  have hm1:=fun base (A:Heap)=>run_most1 (base:=base) (m:=A.length) (A:=A) (n:=0) (x:=w.pr-w.off * f) rfl (by omega)
  by_cases hlim:f≤limW w j
  ·have et:takL R w x j=some (o.getD (o.length-1) 0+1,max 0 (w.pr-w.off * f)):=by
    unfold takL;rw [eo2,ef2,if_pos ⟨hok,hlim⟩]
   rw [et]
   cases j with
   | true =>
    have tl:(f > w.jn)=False:=eq_false (by simp only [limW,if_true] at hlim;omega)
    have hsp:=@Nat.succ_ne_zero;repeat' (first|simp (disch:=first|exact dqc|fail) only [go_sem,↓reduceIte,hsp,eG',gc,e1,gc1,gd1,dW,a1,a2,← eG2,gw2,gc2,gv2,tl,hno,al,ll,hm1]|refine WP_drw ?_|refine cnd_intro (fun hsp=>?_) fun hsp=>?_)
    exact fin_pl rfl rfl (.app (Ext.set xh2 (by omega)))
   | false =>
    have tl:(f > w.fl)=False:=eq_false (by simp only [limW,Bool.false_eq_true,if_false] at hlim;omega)
    have hsp:=@Nat.succ_ne_zero;repeat' (first|simp (disch:=first|exact dqc|fail) only [go_sem,↓reduceIte,hsp,eG',gc,e1,gc1,gd1,dW,a1,a2,← eG2,gw2,gc2,gv2,tl,hno,al,ll,hm1]|refine WP_drw ?_|refine cnd_intro (fun hsp=>?_) fun hsp=>?_)
    exact fin_pl rfl rfl (.app (Ext.set xh2 (by omega)))
  ·have et:takL R w x j=none:=by
    unfold takL;rw [eo2,ef2,if_neg (fun q=>hlim q.2)]
   rw [et]
   cases j with
   | true =>
    have tl:(f > w.jn)=True:=eq_true (by simp only [limW,if_true] at hlim;omega)
    have hsp:=@Nat.succ_ne_zero;repeat' (first|simp (disch:=first|exact dqc|fail) only [go_sem,↓reduceIte,hsp,eG',gc,e1,gc1,gd1,dW,a1,a2,← eG2,gw2,gc2,gv2,tl]|refine WP_drw ?_|refine cnd_intro (fun hsp=>?_) fun hsp=>?_)
    exact fin_pl rfl rfl (Ext.set xh2 (by omega))
   | false =>
    have tl:(f > w.fl)=True:=eq_true (by simp only [limW,Bool.false_eq_true,if_false] at hlim;omega)
    have hsp:=@Nat.succ_ne_zero;repeat' (first|simp (disch:=first|exact dqc|fail) only [go_sem,↓reduceIte,hsp,eG',gc,e1,gc1,gd1,dW,a1,a2,← eG2,gw2,gc2,gv2,tl]|refine WP_drw ?_|refine cnd_intro (fun hsp=>?_) fun hsp=>?_)
    exact fin_pl rfl rfl (Ext.set xh2 (by omega))
end Go.AM
