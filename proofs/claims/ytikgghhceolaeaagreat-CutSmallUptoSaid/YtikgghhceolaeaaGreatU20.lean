/-
  The reference: whether a cut is allowed.
-/
import Derived.Test.YtikgghhceolaeaaGreatU19
import Derived.Test.YtikgghhceolaeaaGreatU12
import Derived.Test.YtikgghhceolaeaaGreatU18
import Derived.KernelRfl
set_option linter.unusedSimpArgs false
set_option linter.unusedVariables false
namespace Go.AM
open Go.Proofs.Tryz
attribute [-go_sem] put_ne put_same
attribute [local go_sem ↓] put_if
def allV:Option (Int × Int)→AVal
 | some e=>.tuple [.int .i64 e.1,.int .i64 e.2,.bool true]
 | none=>.tuple [.int .i64 0,.int .i64 0,.bool false]
set_option maxRecDepth 100000 in
set_option maxHeartbeats 4000000 in
theorem run_allowed {base:Nat} {h:Heap} {v:AVal} {R:Rib} {k x:Nat} {j:Bool} {w:Wnt} (hA:RibAt h v R) (hR:RibOk R) (hw:R.W[k]?=some w) (hx:x<R.L.toNat) :
  callL prog raw base (.fn 57 [] []) [v,.agg [.int .i64 (k:Int),.int .i64 (x:Int),.bool j]] h=some (allV (takL R w x j),h):=by
 have hAe:=fun H (e:Ext h H)=>hA.ext e
 obtain ⟨fv,wv,rfl,hF,hW⟩:=hA
 have o1:=hF.one
 have o2:=hW.one
 have hL:=hR.L
 have hnF:=hR.nF
 have hk:=(List.getElem?_eq_some_iff.1 hw).1
 have hwo:=hR.W w (List.mem_of_getElem? hw)
 have hlg:=hwo.lg
 have hpr:=hwo.pr
 have hof:=hwo.off
 have hfl4:=hwo.fl
 have hjn4:=hwo.jn
 obtain ⟨G,eG⟩:∃ G,G=h++[rrbB R.L fv wv]++[rctB ⟨k,x,j⟩]:=⟨_,rfl⟩
 have xG:Ext h G:=by rw [eG];exact .app (.app .refl)
 have g0:G[h.length]?=some (rrbB R.L fv wv):=by rw [eG];exact get_app (get_eq rfl)
 have g1:G[h.length+1]?=some (rctB ⟨k,x,j⟩):=by rw [eG];exact get_eq (by simp)
 have lG:G.length=h.length+2:=by rw [eG];simp
 obtain ⟨H1,eH1⟩:∃ H1,H1=G++[rwtB w]:=⟨_,rfl⟩
 have x1:Ext G H1:=by rw [eH1];exact .app .refl
 have g01:=x1.get g0
 have g11:=x1.get g1
 have g21:H1[G.length]?=some (rwtB w):=by rw [eH1];exact get_eq rfl
 have l1:H1.length=h.length+3:=by rw [eH1];simp [lG]
 obtain ⟨lv,H2,e2,x2,oV⟩:=run_takes (base:=h.length) (k:=k) (x:=x) (j:=j) (by omega) (hAe H1 (xG.trans x1)) hR hw hx
 have g02:=x2.get g01
 have g12:=x2.get g11
 have g22:=x2.get g21
 have l2:=x2.len
 have xh:=(xG.trans x1).trans x2
 obtain ⟨u0,hu1,hu2,hUK0,hful⟩:=uniP_k (w:=w) (j:=j) hR hx
 have hUK:UnK x 0 w.lg R.L.toNat (uniP R w x j).1 (uniP R w x j).2:=hUK0.mono hu2
 have hfu:(uniP R w x j).2=flN (badF R) j (uniP R w x j).1 (uniP R w x j).1.length:=unL_fl
 have hhd:=fun q=>uniP_head (j:=j) hwo hx q
 have hbd:=fun (e:j=true) (q:badF R x=true)=>uniP_bad hwo hx q
 obtain ⟨l,el0⟩:∃ l,l=(uniP R w x j).1:=⟨_,rfl⟩
 obtain ⟨f,ef0⟩:∃ f,f=(uniP R w x j).2:=⟨_,rfl⟩
 rw [← el0,← ef0] at hUK hfu
 rw [← el0] at oV hhd
 have hlsm:=unK_small hUK (by omega)
 have iL:=own_ints oV hlsm
 have hnl:=lenI iL
 have olv:=oV.one
 have hg:=hUK.g
 have hf:=hUK.f
 have hn':=hUK.n
 have hmul:0≤w.off * f∧w.off * f≤1200:=⟨Int.mul_nonneg hof.1 hf.1,by
  have:=Int.mul_le_mul hof.2 (show f≤60 by omega) hf.1 (by omega:(0:Int)≤20)
  omega⟩
 have hfa:=fun base (u:Int)=>run_fault (base:=base) (u:=u) (hAe H2 xh) (by omega)
 have hfal:=hful
 rw [← el0] at hfal
 have a1:=rwn_ad (hW.ext xG) hk
 have a2:=rwn_ld (hW.ext xG) hw
 unfold rrbB at eG g0 g01 g02
 unfold rctB at eG g1 g11 g12
 unfold rwtB at eH1 g21 g22
 refine callL_run func57 rfl rfl ?_
 by_cases c1:(l.length:Int)<w.lg
 ·have t1:((l.length:Int)<w.lg)=True:=eq_true c1
  have et:takL R w x j=none:=by
   unfold takL
   rw [if_neg]
   rintro ⟨q,_⟩
   unfold okT at q
   rw [← el0,Bool.and_eq_true,decide_eq_true_eq] at q
   omega
  rw [et]
  have hsp:=@Nat.succ_ne_zero;repeat' (first|simp (disch:=first|exact dqc|fail) only [go_sem,↓reduceIte,hsp,eG.symm,g0,g1,a1,a2,← eH1,g01,g11,e2,hnl,g22,t1]|refine WP_drw ?_|refine cnd_intro (fun hsp=>?_) fun hsp=>?_)
  exact fin_pl rfl rfl xh
 ·have t1:((l.length:Int)<w.lg)=False:=eq_false c1
  have hlen:(l.length:Int)=w.lg:=by omega
  have a0:=adrI (i:=0) (by omega) iL (by omega)
  have l0':=loadI iL (i:=0) (by omega)
  rcases Bool.eq_false_or_eq_true (j && badF R x) with hj|hj
  ·obtain ⟨rfl,hbx⟩:=Bool.and_eq_true_iff.1 hj
   have hne:=hbd rfl hbx (l.getD 0 0) (by rw [← el0];exact getD_mem' (by omega))
   have t2:(l.getD 0 0=(x:Int))=False:=eq_false (by omega)
   have et:takL R w x true=none:=by
    unfold takL okT
    rw [hj,if_neg (fun q=>by simp at q)]
   rw [et]
   have hsp:=@Nat.succ_ne_zero;repeat' (first|simp (disch:=first|exact dqc|fail) only [go_sem,↓reduceIte,hsp,eG.symm,g0,g1,a1,a2,← eH1,g01,g11,e2,hnl,g22,t1,a0,l0',g12,t2]|refine WP_drw ?_|refine cnd_intro (fun hsp=>?_) fun hsp=>?_)
   exact fin_pl rfl rfl xh
  ·have t2:(l.getD 0 0=(x:Int))=True:=eq_true (hhd hj).1
   have hok:okT R w x j=true:=by unfold okT;rw [hj,← el0,decide_eq_true hlen];rfl
   cases j with
   | false =>
    have hsp:=@Nat.succ_ne_zero;repeat' (first|simp (disch:=first|exact dqc|fail) only [go_sem,↓reduceIte,hsp,eG.symm,g0,g1,a1,a2,← eH1,g01,g11,e2,hnl,g22,t1,a0,l0',g12,t2]|refine WP_drw ?_|refine cnd_intro (fun hsp=>?_) fun hsp=>?_)
    refine WP_count [(9,9),(11,79)] 0 l.length (Nat.zero_le _) (fun _ i fr H=>fr 11=.int .i64 (i:Int)∧H=H2∧fr 9=.int .i64 (flN (badF R) false l i)) ?_ ?_ ?_
    ·exact ⟨by (simp (disch:=first|exact dqc|fail) only [go_sem,↓reduceIte,Int.natCast_zero];first|done|rfl),rfl,by simp (disch:=first|exact dqc|fail) only [go_sem,↓reduceIte];rfl⟩
    ·rintro i fr H hi0 hi hA ⟨r11,rfl,r9⟩
     have p2:=hA 2 rfl
     have p3:=hA 3 rfl
     have p4:=hA 4 rfl
     have p5:=hA 5 rfl
     have p6:=hA 6 rfl
     have p7:=hA 7 rfl
     have p8:=hA 8 rfl
     have p10:=hA 10 rfl
     try simp (disch:=first|exact dqc|fail) only [go_sem,↓reduceIte] at p2 p3 p4 p5 p6 p7 p8 p10
     have hlt:((i:Int)<(l.length:Int))=True:=eq_true (by omega)
     have ai:=adrI (i:=(i:Int)) (by omega) iL (by omega)
     rw [Int.toNat_natCast] at ai
     have li:=loadI iL hi
     have hfl:=flN_b (bad:=badF R) (j:=false) (l:=l) (n:=i)
     have hst:flN (badF R) false l (i+1)=flN (badF R) false l i+if flC (badF R) false l i=true then 1 else 0:=rfl
     have hyb:=hUK.b _ (getD_mem' (l:=l) (d:=0) hi)
     rcases Bool.eq_false_or_eq_true (badF R (l.getD i 0).toNat) with qb|qb
     ·have hfi:=fun base=>hfa base (l.getD i 0)
      rw [show decide (l.getD i 0 ∈ R.F)=true by rw [← qb];unfold badF;congr 2;omega] at hfi
      have hc:flC (badF R) false l i=true:=by unfold flC;rw [qb];rfl
      rw [hc,if_pos rfl] at hst
      have hsp:=@Nat.succ_ne_zero;repeat' (first|simp (disch:=first|exact dqc|fail) only [go_sem,↓reduceIte,hsp,r11,r9,p2,p3,p4,p5,p6,p7,p8,p10,hnl,hlt,ai,li,g12,g02,hfi]|refine WP_drw ?_|refine cnd_intro (fun hsp=>?_) fun hsp=>?_)
      exact ⟨agq,by omega,by rw [hst]⟩
     ·have hfi:=fun base=>hfa base (l.getD i 0)
      rw [show decide (l.getD i 0 ∈ R.F)=false by rw [← qb];unfold badF;congr 2;omega] at hfi
      have hc:flC (badF R) false l i=false:=by unfold flC;rw [qb];rfl
      rw [hc,if_neg (by simp),Int.add_zero] at hst
      have hsp:=@Nat.succ_ne_zero;repeat' (first|simp (disch:=first|exact dqc|fail) only [go_sem,↓reduceIte,hsp,r11,r9,p2,p3,p4,p5,p6,p7,p8,p10,hnl,hlt,ai,li,g12,g02,hfi]|refine WP_drw ?_|refine cnd_intro (fun hsp=>?_) fun hsp=>?_)
      exact ⟨agq,by omega,by rw [hst]⟩
    ·rintro fr H hA ⟨r11,rfl,r9⟩
     have p2:=hA 2 rfl
     have p3:=hA 3 rfl
     have p4:=hA 4 rfl
     have p5:=hA 5 rfl
     have p6:=hA 6 rfl
     have p7:=hA 7 rfl
     have p8:=hA 8 rfl
     have p10:=hA 10 rfl
     try simp (disch:=first|exact dqc|fail) only [go_sem,↓reduceIte] at p2 p3 p4 p5 p6 p7 p8 p10
     have hlt:((l.length:Int)<(l.length:Int))=False:=eq_false (by omega)
     rw [← hfu] at r9
     have el:((l.length:Int)-1).toNat=l.length-1:=by omega
     have al:=adrI (i:=(l.length:Int)-1) (by omega) iL (by omega)
     rw [el] at al
     have ll:=loadI iL (i:=l.length-1) (by omega)
     have hlb:=hUK.b _ (getD_mem' (l:=l) (d:=0) (i:=l.length-1) (by omega))
     by_cases hlim:f≤limW w false
     ·have et:takL R w x false=some (l.getD (l.length-1) 0+1,max 0 (w.pr-w.off * f)):=by
       unfold takL;rw [← el0,← ef0,if_pos ⟨hok,hlim⟩]
      rw [et]
      have tl:(f > w.fl)=False:=eq_false (by simp only [limW,if_true,Bool.false_eq_true,if_false] at hlim;omega)
      have hsp:=@Nat.succ_ne_zero;repeat' (first|simp (disch:=first|exact dqc|fail) only [go_sem,↓reduceIte,hsp,r11,r9,p2,p3,p4,p5,p6,p7,p8,p10,hnl,hlt,tl,al,ll,g22]|refine WP_drw ?_|refine cnd_intro (fun hsp=>?_) fun hsp=>?_)
      exact fin_pl rfl rfl xh
     ·have et:takL R w x false=none:=by
       unfold takL;rw [← ef0,if_neg (fun q=>hlim q.2)]
      rw [et]
      have tl:(f > w.fl)=True:=eq_true (by simp only [limW,if_true,Bool.false_eq_true,if_false] at hlim;omega)
      have hsp:=@Nat.succ_ne_zero;repeat' (first|simp (disch:=first|exact dqc|fail) only [go_sem,↓reduceIte,hsp,r11,r9,p2,p3,p4,p5,p6,p7,p8,p10,hnl,hlt,tl]|refine WP_drw ?_|refine cnd_intro (fun hsp=>?_) fun hsp=>?_)
      exact fin_pl rfl rfl xh
   | true =>
    have hsp:=@Nat.succ_ne_zero;repeat' (first|simp (disch:=first|exact dqc|fail) only [go_sem,↓reduceIte,hsp,eG.symm,g0,g1,a1,a2,← eH1,g01,g11,e2,hnl,g22,t1,a0,l0',g12,t2]|refine WP_drw ?_|refine cnd_intro (fun hsp=>?_) fun hsp=>?_)
    refine WP_count [(9,9),(11,79)] 0 l.length (Nat.zero_le _) (fun _ i fr H=>fr 11=.int .i64 (i:Int)∧H=H2∧fr 9=.int .i64 (flN (badF R) true l i)) ?_ ?_ ?_
    ·exact ⟨by (simp (disch:=first|exact dqc|fail) only [go_sem,↓reduceIte,Int.natCast_zero];first|done|rfl),rfl,by simp (disch:=first|exact dqc|fail) only [go_sem,↓reduceIte];rfl⟩
    ·rintro i fr H hi0 hi hA ⟨r11,rfl,r9⟩
     have p2:=hA 2 rfl
     have p3:=hA 3 rfl
     have p4:=hA 4 rfl
     have p5:=hA 5 rfl
     have p6:=hA 6 rfl
     have p7:=hA 7 rfl
     have p8:=hA 8 rfl
     have p10:=hA 10 rfl
     try simp (disch:=first|exact dqc|fail) only [go_sem,↓reduceIte] at p2 p3 p4 p5 p6 p7 p8 p10
     have hlt:((i:Int)<(l.length:Int))=True:=eq_true (by omega)
     have ai:=adrI (i:=(i:Int)) (by omega) iL (by omega)
     rw [Int.toNat_natCast] at ai
     have li:=loadI iL hi
     have hfl:=flN_b (bad:=badF R) (j:=true) (l:=l) (n:=i)
     have hst:flN (badF R) true l (i+1)=flN (badF R) true l i+if flC (badF R) true l i=true then 1 else 0:=rfl
     have hyb:=hUK.b _ (getD_mem' (l:=l) (d:=0) hi)
     by_cases c3:0<i
     ·have t3:((i:Int) > 0)=True:=eq_true (by omega)
      have ei:((i:Int)-1).toNat=i-1:=by omega
      have aj:=adrI (i:=(i:Int)-1) (by omega) iL (by omega)
      rw [ei] at aj
      have lj:=loadI iL (i:=i-1) (by omega)
      have hyj:=hUK.b _ (getD_mem' (l:=l) (d:=0) (i:=i-1) (by omega))
      by_cases c4:l.getD i 0 > l.getD (i-1) 0+1
      ·have t4:(l.getD i 0 > l.getD (i-1) 0+1)=True:=eq_true c4
       have hc:flC (badF R) true l i=true:=by unfold flC;rw [decide_eq_true c3,decide_eq_true c4];rfl
       rw [hc,if_pos rfl] at hst
       have hsp:=@Nat.succ_ne_zero;repeat' (first|simp (disch:=first|exact dqc|fail) only [go_sem,↓reduceIte,hsp,r11,r9,p2,p3,p4,p5,p6,p7,p8,p10,hnl,hlt,ai,li,g12,t3,aj,lj,t4]|refine WP_drw ?_|refine cnd_intro (fun hsp=>?_) fun hsp=>?_)
       exact ⟨agq,by omega,by rw [hst]⟩
      ·have t4:(l.getD i 0 > l.getD (i-1) 0+1)=False:=eq_false c4
       have hc:flC (badF R) true l i=false:=by unfold flC;rw [decide_eq_false c4,Bool.and_false];rfl
       rw [hc,if_neg (by simp),Int.add_zero] at hst
       have hsp:=@Nat.succ_ne_zero;repeat' (first|simp (disch:=first|exact dqc|fail) only [go_sem,↓reduceIte,hsp,r11,r9,p2,p3,p4,p5,p6,p7,p8,p10,hnl,hlt,ai,li,g12,t3,aj,lj,t4]|refine WP_drw ?_|refine cnd_intro (fun hsp=>?_) fun hsp=>?_)
       exact ⟨agq,by omega,by rw [hst]⟩
     ·have t3:((i:Int) > 0)=False:=eq_false (by omega)
      have hc:flC (badF R) true l i=false:=by unfold flC;rw [decide_eq_false c3];rfl
      rw [hc,if_neg (by simp),Int.add_zero] at hst
      have hsp:=@Nat.succ_ne_zero;repeat' (first|simp (disch:=first|exact dqc|fail) only [go_sem,↓reduceIte,hsp,r11,r9,p2,p3,p4,p5,p6,p7,p8,p10,hnl,hlt,ai,li,g12,t3]|refine WP_drw ?_|refine cnd_intro (fun hsp=>?_) fun hsp=>?_)
      exact ⟨agq,by omega,by rw [hst]⟩
    ·rintro fr H hA ⟨r11,rfl,r9⟩
     have p2:=hA 2 rfl
     have p3:=hA 3 rfl
     have p4:=hA 4 rfl
     have p5:=hA 5 rfl
     have p6:=hA 6 rfl
     have p7:=hA 7 rfl
     have p8:=hA 8 rfl
     have p10:=hA 10 rfl
     try simp (disch:=first|exact dqc|fail) only [go_sem,↓reduceIte] at p2 p3 p4 p5 p6 p7 p8 p10
     have hlt:((l.length:Int)<(l.length:Int))=False:=eq_false (by omega)
     rw [← hfu] at r9
     have el:((l.length:Int)-1).toNat=l.length-1:=by omega
     have al:=adrI (i:=(l.length:Int)-1) (by omega) iL (by omega)
     rw [el] at al
     have ll:=loadI iL (i:=l.length-1) (by omega)
     have hlb:=hUK.b _ (getD_mem' (l:=l) (d:=0) (i:=l.length-1) (by omega))
     by_cases hlim:f≤limW w true
     ·have et:takL R w x true=some (l.getD (l.length-1) 0+1,max 0 (w.pr-w.off * f)):=by
       unfold takL;rw [← el0,← ef0,if_pos ⟨hok,hlim⟩]
      rw [et]
      have tl:(f > w.jn)=False:=eq_false (by simp only [limW,if_true,Bool.false_eq_true,if_false] at hlim;omega)
      have hsp:=@Nat.succ_ne_zero;repeat' (first|simp (disch:=first|exact dqc|fail) only [go_sem,↓reduceIte,hsp,r11,r9,p2,p3,p4,p5,p6,p7,p8,p10,hnl,hlt,tl,al,ll,g22]|refine WP_drw ?_|refine cnd_intro (fun hsp=>?_) fun hsp=>?_)
      exact fin_pl rfl rfl xh
     ·have et:takL R w x true=none:=by
       unfold takL;rw [← ef0,if_neg (fun q=>hlim q.2)]
      rw [et]
      have tl:(f > w.jn)=True:=eq_true (by simp only [limW,if_true,Bool.false_eq_true,if_false] at hlim;omega)
      have hsp:=@Nat.succ_ne_zero;repeat' (first|simp (disch:=first|exact dqc|fail) only [go_sem,↓reduceIte,hsp,r11,r9,p2,p3,p4,p5,p6,p7,p8,p10,hnl,hlt,tl]|refine WP_drw ?_|refine cnd_intro (fun hsp=>?_) fun hsp=>?_)
      exact fin_pl rfl rfl xh
end Go.AM
namespace Go.AM
def tenR:Rib:=⟨10,[3,5],[⟨4,10,3,1,1⟩,⟨3,6,1,0,2⟩]⟩
theorem ten_chk:chkR tenR=0:=by kernel_rfl
theorem ten_ok:RibOk tenR:=chkR_iff.1 ten_chk
theorem ten_t1:takE tenR ⟨0,0,true⟩=(5,7,0):=by kernel_rfl
theorem ten_t2:takE tenR ⟨0,2,false⟩=(0,0,6):=by kernel_rfl
theorem ten_madl:(madE tenR).length=11:=by kernel_rfl
theorem ten_mad0:(madE tenR).getD 0 0=17:=by kernel_rfl
theorem ten_mad6:(madE tenR).getD 6 0=10:=by kernel_rfl
theorem ten_mad7:(madE tenR).getD 7 0=6:=by kernel_rfl
theorem ten_all:allE tenR=17:=by kernel_rfl
theorem ten_bst:(bstE false tenR).length=2:=by kernel_rfl
theorem ten_rst:rstE tenR [⟨0,0,true⟩,⟨0,6,false⟩]=([(3,3),(5,5)],0):=by kernel_rfl
theorem ten_usd:usdE tenR=[0]:=by kernel_rfl
theorem ten_dmg:dmgE tenR 8=(3,0):=by kernel_rfl
theorem ten_men:menE tenR 3=(3,0):=by kernel_rfl
theorem ten_rse:rseE tenR 1=(7,0):=by kernel_rfl
end Go.AM
namespace Go.AM
open Go.Proofs.Tryz
attribute [-go_sem] put_ne put_same
attribute [local go_sem ↓] put_if
theorem bs2I {lit:Bool} {H:Heap} {a b:Int} (hl:lit=false):bsA prog lit H 32 2 [(0,.int .i64 a),(1,.int .i64 b)]=some (.slice (some ⟨H.length,0,0⟩) 2 2,H++[rowB [a,b] 0]):=by
 subst hl;simp [bsA,rowOf,Fc.el32,fillA,repCells,AVal.isN,AVal.cells,splice,rowB,ints]
theorem bs2W {lit:Bool} {H:Heap} {a b:Wnt}:bsA prog lit H 33 2 [(0,.agg [.int .i64 a.lg,.int .i64 a.pr,.int .i64 a.off,.int .i64 a.fl,.int .i64 a.jn]),(1,.agg [.int .i64 b.lg,.int .i64 b.pr,.int .i64 b.off,.int .i64 b.fl,.int .i64 b.jn])]=some (.slice (some ⟨H.length,0,0⟩) 2 2,H++[rowE encW 50 [a,b] 0]):=by
 simp [bsA,rowOf,Fc.el33,fillA,repCells,AVal.isN,AVal.cells,splice,rowE,flat,encW]
theorem bs2C {lit:Bool} {H:Heap} {a b:Ct}:bsA prog lit H 51 2 [(0,.agg [.int .i64 a.w,.int .i64 a.f,.bool a.j]),(1,.agg [.int .i64 b.w,.int .i64 b.f,.bool b.j])]=some (.slice (some ⟨H.length,0,0⟩) 2 2,H++[rowE encC 57 [a,b] 0]):=by
 simp [bsA,rowOf,Fc.el51,fillA,repCells,AVal.isN,AVal.cells,splice,rowE,flat,encC]
theorem bs2S {lit:Bool} {H:Heap} {a b:Int × Int}:bsA prog lit H 112 2 [(0,.agg [.int .i64 a.1,.int .i64 a.2]),(1,.agg [.int .i64 b.1,.int .i64 b.2])]=some (.slice (some ⟨H.length,0,0⟩) 2 2,H++[rowE encS 84 [a,b] 0]):=by
 simp [bsA,rowOf,Fc.el112,fillA,repCells,AVal.isN,AVal.cells,splice,rowE,flat,encS]
theorem app_non {base id:Nat} {H:Heap} {l:List Int} {n:Nat} (hg:H[id]?=some (rowB l 0)) (hn:n=l.length):appendA prog base H 32 (.slice (some ⟨id,0,0⟩) n n) (.slice none 0 0)=some (.slice (some ⟨id,0,0⟩) n n,H):=by
 subst hn
 have hst:storeN base H (ARef.add ⟨id,0,0⟩ l.length) []=some H:=by
  unfold storeN
  simp only [ARef.add,hg,rowB]
  rw [if_pos ⟨trivial,by simp [ints_length],rfl,.inr rfl⟩]
  simp only [splice]
  rw [show (⟨.cells (ints l) 3 true false,0⟩:ABlk)=rowB l 0 from rfl,set_id hg]
 simp [appendA,Fc.el32,lenA,firstN,hst]
theorem run_Ten {base:Nat} {h:Heap} (hb:base≤h.length):Ret prog raw base (.fn 19 [] []) [.slice none 0 0] h (fun w H=>Ext h H∧RibAt H w tenR):=by
 obtain ⟨G,eG⟩:∃ G,G=h++[ribB 0 (.slice none 0 0) (.slice none 0 0)]:=⟨_,rfl⟩
 have xG:Ext h G:=by rw [eG];exact .app .refl
 have gG:G[h.length]?=some (ribB 0 (.slice none 0 0) (.slice none 0 0)):=by rw [eG];exact get_eq rfl
 have lG:G.length=h.length+1:=by rw [eG];simp
 obtain ⟨H1,eH1⟩:∃ H1,H1=G++[rowB [3,5] 0]:=⟨_,rfl⟩
 have x1:Ext G H1:=by rw [eH1];exact .app .refl
 have g1:H1[G.length]?=some (rowB [3,5] 0):=by rw [eH1];exact get_eq rfl
 have l1:H1.length=h.length+2:=by rw [eH1];simp [lG]
 obtain ⟨H2,eH2⟩:∃ H2,H2=H1++[rowE encW 50 [⟨4,10,3,1,1⟩,⟨3,6,1,0,2⟩] 0]:=⟨_,rfl⟩
 have x2:Ext H1 H2:=by rw [eH2];exact .app .refl
 have g2:H2[H1.length]?=some (rowE encW 50 [⟨4,10,3,1,1⟩,⟨3,6,1,0,2⟩] 0):=by rw [eH2];exact get_eq rfl
 have l2:H2.length=h.length+3:=by rw [eH2];simp [l1]
 have g02:=(x1.trans x2).get gG
 have b1:=fun lit (hl:lit=false)=>bs2I (lit:=lit) (H:=G) (a:=3) (b:=5) hl
 rw [← eH1] at b1
 have b2:=fun lit=>bs2W (lit:=lit) (H:=H1) (a:=⟨4,10,3,1,1⟩) (b:=⟨3,6,1,0,2⟩)
 rw [← eH2] at b2
 have ap:=app_non (base:=base) (id:=G.length) (n:=2) (H:=H1) g1 rfl
 unfold ribB at eG gG g02
 refine ret_raw func19 rfl (by kernel_rfl) ?_
 have hsp:=@Nat.succ_ne_zero;repeat' (first|simp (disch:=first|exact dq|fail) only [go_sem,↓reduceIte,hsp,← eG,b1,ap,b2,g02]|refine WP_drw ?_|refine cnd_intro (fun hsp=>?_) fun hsp=>?_)
 have xf:Ext h (H2.set h.length (ribB 10 (.slice (some ⟨G.length,0,0⟩) 2 2) (.slice (some ⟨H1.length,0,0⟩) 2 2))):=Ext.set ((xG.trans x1).trans x2) (Nat.le_refl _)
 refine ⟨xf,_,_,rfl,ints_rowB (l:=[3,5]) ?_ ⟨by simp,fun y hy=>?_⟩ rfl,Rows.own (l:=([⟨4,10,3,1,1⟩,⟨3,6,1,0,2⟩]:List Wnt)) (e:=50) ?_ rfl (by simp)⟩
 ·rw [List.getElem?_set_ne (by omega)];exact x2.get g1
 ·simp at hy;omega
 ·rw [List.getElem?_set_ne (by omega)];exact g2
set_option maxRecDepth 100000 in
set_option maxHeartbeats 4000000 in
theorem run_awake {base:Nat} {h:Heap}:callL prog raw base (.fn 16 [] []) [] h=some (.bool true,h):=by
 have hsm:tenR.F.length≤1048576:=by decide
 obtain ⟨v1,A1,e1,x1,T1⟩:=run_Ten (base:=h.length) (h:=h) (Nat.le_refl _)
 have k1:=fun base=>run_Take (base:=base) (c:=⟨0,0,true⟩) T1 hsm
 rw [ten_t1] at k1
 have l1:=x1.len
 obtain ⟨v2,A2,e2,x2,T2⟩:=run_Ten (base:=h.length) (h:=A1) l1
 have k2:=fun base=>run_Take (base:=base) (c:=⟨0,2,false⟩) T2 hsm
 rw [ten_t2] at k2
 have l2:=x2.len
 obtain ⟨v3,A3,e3,x3,T3⟩:=run_Ten (base:=h.length) (h:=A2) (by omega)
 have l3:=x3.len
 obtain ⟨w3,B3,f3,y3,u3,rfl,O3⟩:=run_Best (base:=h.length) (by omega) T3 hsm
 have m3:=y3.len
 obtain ⟨v4,A4,e4,x4,T4⟩:=run_Ten (base:=h.length) (h:=B3) (by omega)
 have l4:=x4.len
 obtain ⟨w4,B4,f4,y4,u4,rfl,O4⟩:=run_Made (base:=h.length) (by omega) T4 hsm
 have m4:=y4.len
 obtain ⟨v5,A5,e5,x5,T5⟩:=run_Ten (base:=h.length) (h:=B4) (by omega)
 have l5:=x5.len
 obtain ⟨A5',eA5⟩:∃ A5',A5'=A5++[rowE encC 57 [⟨0,0,true⟩,⟨0,6,false⟩] 0]:=⟨_,rfl⟩
 have x5':Ext A5 A5':=by rw [eA5];exact .app .refl
 have P5:Rows encC A5' (.slice (some ⟨A5.length,0,0⟩) 2 2) [⟨0,0,true⟩,⟨0,6,false⟩]:=Rows.own (by rw [eA5];exact get_eq rfl) rfl (by simp)
 have l5':=x5'.len
 have bs5:=fun lit=>bs2C (lit:=lit) (H:=A5) (a:=⟨0,0,true⟩) (b:=⟨0,6,false⟩)
 rw [← eA5] at bs5
 obtain ⟨w5,B5,f5,y5,u5,rfl,O5⟩:=run_Rest (base:=h.length) (by omega) (T5.ext x5') hsm P5
 rw [ten_rst] at f5 O5
 have m5:=y5.len
 obtain ⟨v6,A6,e6,x6,T6⟩:=run_Ten (base:=h.length) (h:=B5) (by omega)
 have l6:=x6.len
 obtain ⟨w6,B6,f6,y6,u6,rfl,O6⟩:=run_Used (base:=h.length) (by omega) T6 hsm
 rw [ten_usd] at O6
 have m6:=y6.len
 obtain ⟨v7,A7,e7,x7,T7⟩:=run_Ten (base:=h.length) (h:=B6) (by omega)
 have k7:=fun base=>run_Raise (base:=base) (want:=1) T7 hsm
 rw [ten_rse] at k7
 have l7:=x7.len
 obtain ⟨v8,A8,e8,x8,T8⟩:=run_Ten (base:=h.length) (h:=A7) (by omega)
 have k8:=fun base=>run_Damage (base:=base) (u:=8) T8 hsm (by omega)
 rw [ten_dmg] at k8
 have l8:=x8.len
 obtain ⟨v9,A9,e9,x9,T9⟩:=run_Ten (base:=h.length) (h:=A8) (by omega)
 have k9:=fun base=>run_Mended (base:=base) (u:=3) T9 hsm
 rw [ten_men] at k9
 rw [ten_chk,ten_all] at f3
 rw [ten_chk] at f4 f6
 simp only at k1 k2 k7 k8 k9 f5
 have z4:=x4.trans y4
 have n3:=own_len (O3.ext z4) Fc.el51 (by rw [ten_bst];decide)
 rw [ten_bst] at n3
 have I4:=ownE_ints O4 (by unfold madE;rw [if_neg (by simp [ten_chk])];exact val_small ten_ok (by decide))
 have n4:=lenI I4
 have a40:=adrI (i:=0) (by omega) I4 (by rw [ten_madl];omega)
 have a46:=adrI (i:=6) (by omega) I4 (by rw [ten_madl];omega)
 have a47:=adrI (i:=7) (by omega) I4 (by rw [ten_madl];omega)
 have d40:=loadI I4 (i:=0) (by rw [ten_madl];omega)
 have d46:=loadI I4 (i:=6) (by rw [ten_madl];omega)
 have d47:=loadI I4 (i:=7) (by rw [ten_madl];omega)
 rw [ten_madl] at n4
 rw [ten_mad0] at d40
 rw [ten_mad6] at d46
 rw [ten_mad7] at d47
 have z69:Ext B6 A9:=(x7.trans x8).trans x9
 have z59:Ext B5 A9:=(x6.trans y6).trans z69
 have l9:=x9.len
 obtain ⟨C1,eC1⟩:∃ C1,C1=A9++[rowE encS 84 [(3,3),(5,5)] 0]:=⟨_,rfl⟩
 have xc1:Ext A9 C1:=by rw [eC1];exact .app .refl
 have bs6:=fun lit=>bs2S (lit:=lit) (H:=A9) (a:=(3,3)) (b:=(5,5))
 rw [← eC1] at bs6
 simp only at bs6
 have q5:=fun base=>run_eqS (base:=base) ((O5.rows (by simp)).ext (z59.trans xc1)) (Rows.own (E:=encS) (e:=84) (id:=A9.length) (ver:=0) (n:=2) (l:=[(3,3),(5,5)]) (by rw [eC1];exact get_eq rfl) rfl (by simp)) (by simp)
 obtain ⟨C2,eC2⟩:∃ C2,C2=C1++[rowB [0] 0]:=⟨_,rfl⟩
 have xc2:Ext C1 C2:=by rw [eC2];exact .app .refl
 have s0:Small [(0:Int)]:=⟨by simp,fun y hy=>by simp at hy;omega⟩
 have I6:=own_ints (O6.ext ((z69.trans xc1).trans xc2)) s0
 have I6':Ints C2 (.slice (some ⟨C1.length,0,0⟩) 1 1) [0]:=ints_rowB (by rw [eC2];exact get_eq rfl) s0 rfl
 have q6:=fun base=>run_eqI (base:=base) I6 I6'
 have o3:=O3.one
 have o4:=O4.one
 have o5:=O5.one
 have o6:=O6.one
 have xf:Ext h C2:=(((((((x1.trans x2).trans x3).trans y3).trans z4).trans x5).trans x5').trans y5).trans ((z59.trans xc1).trans xc2)
 refine callL_run func16 rfl rfl ?_
 have hsp:=@Nat.succ_ne_zero;repeat' (first|simp (disch:=first|exact dq|fail) only [go_sem,↓reduceIte,hsp,e1,k1,e2,k2,e3,f3,e4,f4,n3,n4,a40,a46,a47,d40,d46,d47,e5,bs5,f5,e6,f6,e7,k7,e8,k8,e9,k9,bs6,← eC1,q5,← eC2,q6,decide_true]|refine WP_drw ?_|refine cnd_intro (fun hsp=>?_) fun hsp=>?_)
 exact fB rfl xf
end Go.AM
namespace Go.AM
open Go.Proofs.Tryz
attribute [-go_sem] put_ne put_same
attribute [local go_sem ↓] put_if
theorem bsD1 {lit:Bool} {H:Heap} {a f:Int} {j:Bool}:bsA prog lit H 126 1 [(0,.agg [.int .i64 a,.int .i64 f,.bool j])]=some (.slice (some ⟨H.length,0,0⟩) 1 1,H++[rowE encC 129 [⟨a,f,j⟩] 0]):=by
 simp [bsA,rowOf,Fc.el126,fillA,repCells,AVal.isN,AVal.cells,splice,rowE,flat,encC]
theorem bsV1 {lit:Bool} {H:Heap} {w:Wnt}:bsA prog lit H 121 1 [(0,.agg [.int .i64 w.lg,.int .i64 w.pr,.int .i64 w.off,.int .i64 w.fl,.int .i64 w.jn])]=some (.slice (some ⟨H.length,0,0⟩) 1 1,H++[rowE encW 189 [w] 0]):=by
 simp [bsA,rowOf,Fc.el121,fillA,repCells,AVal.isN,AVal.cells,splice,rowE,flat,encW]
theorem snocD {b base:Nat} {A:Heap} {w:AVal} {l:List Ct} {r:Ct} (hO:Own encC 129 b A w l) (hb:base≤b) (hbh:b≤A.length) (hl:l.length≤1000000) :
  ∃ w' H,appendA prog base (A++[rowE encC 129 [r] 0]) 126 w (.slice (some ⟨A.length,0,0⟩) 1 1)=some (w',H)∧Own encC 129 b H w' (l++[r])∧A.length≤H.length∧(∀ G,G.length≤b→Ext G A→Ext G H)∧One w'∧KeepO encC 129 A H:=by
 obtain ⟨B,eB⟩:∃ B,B=A++[rowE encC 129 [r] 0]:=⟨_,rfl⟩
 have xB:Ext A B:=by rw [eB];exact .app .refl
 have lB':B.length=A.length+1:=by rw [eB];simp
 have hx:Rows encC B (.slice (some ⟨A.length,0,0⟩) 1 1) [r]:=Rows.own (by rw [eB];exact get_eq rfl) rfl (by simp)
 rw [← eB]
 obtain ⟨w',H,a1,a2,a3,a4,a5,a6⟩:=(hO.ext xB).appendRX (P:=prog) (base:=base) (t:=126) hx Fc.el126 encC_sc hb (by omega) (by simp) (by simp;omega)
 have a6:KeepO encC 129 B H:=a6
 exact ⟨w',H,a1,a2,by omega,fun G h1 h2=>a4 G h1 (h2.trans xB),a5,fun i y hi hy=>a6 i y (xB.get hi) hy⟩
theorem snocV {b base:Nat} {A:Heap} {w:AVal} {l:List Wnt} {r:Wnt} (hO:Own encW 189 b A w l) (hb:base≤b) (hbh:b≤A.length) (hl:l.length≤1000000) :
  ∃ w' H,appendA prog base (A++[rowE encW 189 [r] 0]) 121 w (.slice (some ⟨A.length,0,0⟩) 1 1)=some (w',H)∧Own encW 189 b H w' (l++[r])∧A.length≤H.length∧(∀ G,G.length≤b→Ext G A→Ext G H)∧One w'∧KeepO encW 189 A H:=by
 obtain ⟨B,eB⟩:∃ B,B=A++[rowE encW 189 [r] 0]:=⟨_,rfl⟩
 have xB:Ext A B:=by rw [eB];exact .app .refl
 have lB':B.length=A.length+1:=by rw [eB];simp
 have hx:Rows encW B (.slice (some ⟨A.length,0,0⟩) 1 1) [r]:=Rows.own (by rw [eB];exact get_eq rfl) rfl (by simp)
 rw [← eB]
 obtain ⟨w',H,a1,a2,a3,a4,a5,a6⟩:=(hO.ext xB).appendRX (P:=prog) (base:=base) (t:=121) hx Fc.el121 encW_sc hb (by omega) (by simp) (by simp;omega)
 have a6:KeepO encW 189 B H:=a6
 exact ⟨w',H,a1,a2,by omega,fun G h1 h2=>a4 G h1 (h2.trans xB),a5,fun i y hi hy=>a6 i y (xB.get hi) hy⟩
theorem run_own {base:Nat} {h:Heap} {v:AVal} {R:Rib} (hb:base≤h.length) (hA:RibAt h v R) (hf:R.F.length≤1000) (hw:R.W.length≤1000) :
  Ret prog raw base (.fn 53 [] []) [v] h (fun w H=>Ext h H∧∃ fw ww,w=.agg [.int .i64 R.L,fw,ww]∧OwnE encI 3 h.length H fw R.F∧OwnE encW 50 h.length H ww R.W):=by
 obtain ⟨fv,wv,rfl,hF,hW⟩:=hA
 have o1:=hF.one
 have o2:=hW.one
 obtain ⟨G,eG⟩:∃ G,G=h++[ribB R.L fv wv]++[ribB 0 (.slice none 0 0) (.slice none 0 0)]:=⟨_,rfl⟩
 have xG:Ext h G:=by rw [eG];exact .app (.app .refl)
 have lG:G.length=h.length+2:=by rw [eG];simp
 have g0:G[h.length]?=some (ribB R.L fv wv):=by rw [eG];exact get_app (get_eq rfl)
 have g00:G[h.length+1]?=some (ribB 0 (.slice none 0 0) (.slice none 0 0)):=by rw [eG];exact get_eq (by simp)
 obtain ⟨fw,H1,e1,x1,oF⟩:=run_dupI (base:=base) (by omega) (hF.ext xG) hf
 have l1:=x1.len
 obtain ⟨ww,H2,e2,x2,oW⟩:=run_dupW (base:=base) (by omega) (hW.ext (xG.trans x1)) hw
 have l2:=x2.len
 have g1:=x1.get g0
 have g2:=x2.get g1
 have g12:=(x1.trans x2).get g00
 have ow1:=oF.one
 have ow2:=oW.one
 have xf:Ext h H2:=(xG.trans x1).trans x2
 unfold ribB at eG g0 g00 g1 g2 g12
 refine ret_raw func53 rfl (by kernel_rfl) ?_
 have hsp:=@Nat.succ_ne_zero;repeat' (first|simp (disch:=first|exact dq|fail) only [go_sem,↓reduceIte,hsp,← eG,g0,e1,g1,e2,g2,g12]|refine WP_drw ?_|refine cnd_intro (fun hsp=>?_) fun hsp=>?_)
 exact ⟨xf.set (by omega),fw,ww,rfl,((oF.ext x2).setBox g12).low (by omega),(oW.setBox g12).low (by omega)⟩
theorem run_same {base:Nat} {h:Heap} {v w:AVal} {R:Rib} (hv:RibAt h v R) (hw:RibAt h w R) (hl:R.W.length≤1000):callL prog raw base (.fn 62 [] []) [v,w] h=some (.bool true,h):=by
 obtain ⟨cv,rv,rfl,hC,hR⟩:=hv
 obtain ⟨cw,rw',rfl,hC2,hR2⟩:=hw
 have o1:=hC.one
 have o2:=hR.one
 have o3:=hC2.one
 have o4:=hR2.one
 obtain ⟨G,eG⟩:∃ G,G=h++[ribB R.L cv rv]++[ribB R.L cw rw']:=⟨_,rfl⟩
 have xG:Ext h G:=by rw [eG];exact .app (.app .refl)
 have g0:G[h.length]?=some (ribB R.L cv rv):=by rw [eG];exact get_app (get_eq rfl)
 have g1:G[h.length+1]?=some (ribB R.L cw rw'):=by rw [eG];exact get_eq (by simp)
 have e1:=fun base=>run_eqI (base:=base) (hC.ext xG) (hC2.ext xG)
 rw [decide_eq_true rfl] at e1
 have e2:=fun base=>run_eqW (base:=base) (hR.ext xG) (hR2.ext xG) hl
 unfold ribB at eG g0 g1
 refine callL_run func62 rfl rfl ?_
 have hsp:=@Nat.succ_ne_zero;repeat' (first|simp (disch:=first|exact dq|fail) only [go_sem,↓reduceIte,hsp,← eG,g0,g1,eq_self,decide_true,e1,e2]|refine WP_drw ?_|refine cnd_intro (fun hsp=>?_) fun hsp=>?_)
 exact fB rfl xG
theorem run_great {base:Nat} {h:Heap} {v:AVal} {R:Rib} (hA:RibAt h v R):callL prog raw base (.fn 52 [] []) [v] h=some (.bool (decide (20<R.F.length ∨ 12<R.W.length)),h):=by
 obtain ⟨cv,rv,rfl,hC,hR⟩:=hA
 have o1:=hC.one
 have o2:=hR.one
 obtain ⟨G,eG⟩:∃ G,G=h++[ribB R.L cv rv]:=⟨_,rfl⟩
 have xG:Ext h G:=by rw [eG];exact .app .refl
 have g0:G[h.length]?=some (ribB R.L cv rv):=by rw [eG];exact get_eq rfl
 have hn1:=lenI (hC.ext xG)
 have hn2:=(hR.ext xG).len (P:=prog) Fc.el33
 unfold ribB at eG g0
 refine callL_run func52 rfl rfl ?_
 by_cases c:20<R.F.length
 ·have t1:((R.F.length:Int) > 20)=True:=eq_true (by omega)
  have hsp:=@Nat.succ_ne_zero;repeat' (first|simp (disch:=first|exact dq|fail) only [go_sem,↓reduceIte,hsp,← eG,g0,hn1,t1]|refine WP_drw ?_|refine cnd_intro (fun hsp=>?_) fun hsp=>?_)
  exact fB (by rw [decide_eq_true (.inl c)]) xG
 ·have t1:((R.F.length:Int) > 20)=False:=eq_false (by omega)
  by_cases d:12<R.W.length
  ·have t2:((R.W.length:Int) > 12)=True:=eq_true (by omega)
   have hsp:=@Nat.succ_ne_zero;repeat' (first|simp (disch:=first|exact dq|fail) only [go_sem,↓reduceIte,hsp,← eG,g0,hn1,hn2,t1,t2]|refine WP_drw ?_|refine cnd_intro (fun hsp=>?_) fun hsp=>?_)
   exact fB (by rw [decide_eq_true (.inr d)]) xG
  ·have t2:((R.W.length:Int) > 12)=False:=eq_false (by omega)
   have hsp:=@Nat.succ_ne_zero;repeat' (first|simp (disch:=first|exact dq|fail) only [go_sem,↓reduceIte,hsp,← eG,g0,hn1,hn2,t1,t2]|refine WP_drw ?_|refine cnd_intro (fun hsp=>?_) fun hsp=>?_)
   exact fB (by rw [decide_eq_false (by omega)]) xG
end Go.AM
namespace Go.AM
open Go.Proofs.Tryz
attribute [-go_sem] put_ne put_same
attribute [local go_sem ↓] put_if
set_option maxHeartbeats 2000000 in
theorem run_theirs {base:Nat} {h:Heap} {v:AVal} {R:Rib} (hb:base≤h.length) (hA:RibAt h v R) (hf:R.F.length≤1000) (hl:R.W.length≤1000) :
  Ret prog raw base (.fn 54 [] []) [v] h (fun w H=>Ext h H∧RibAt H w R∧∃ fw ww,w=.agg [.int .i64 R.L,fw,ww]∧One fw∧One ww):=by
 obtain ⟨fv,wv,rfl,hF,hW⟩:=hA
 have o1:=hF.one
 have o2:=hW.one
 obtain ⟨G1,eG1⟩:∃ G1,G1=h++[ribB R.L fv wv]++[rrbB 0 (.slice none 0 0) (.slice none 0 0)]:=⟨_,rfl⟩
 have xG1:Ext h G1:=by rw [eG1];exact .app (.app .refl)
 have l1:G1.length=h.length+1+1:=by rw [eG1];simp
 have g01:G1[h.length]?=some (ribB R.L fv wv):=by rw [eG1];exact get_app (get_eq rfl)
 have g11:G1[h.length+1]?=some (rrbB 0 (.slice none 0 0) (.slice none 0 0)):=by rw [eG1];exact get_eq (by simp)
 obtain ⟨fw,G2,e2,x2,oF⟩:=run_dupI (base:=base) (h:=G1) (by omega) (hF.ext xG1) hf
 have l2:=x2.len
 have ofw:=oF.one
 obtain ⟨G,eG⟩:∃ G,G=G2++[rrbB R.L fw (.slice none 0 0)]:=⟨_,rfl⟩
 have xG2:Ext G2 G:=by rw [eG];exact .app .refl
 have xG:Ext h G:=(xG1.trans x2).trans xG2
 have lG:G.length=G2.length+1:=by rw [eG];simp
 have g02:=x2.get g01
 have g0:G[h.length]?=some (ribB R.L fv wv):=xG2.get g02
 have g1:G[h.length+1]?=some (rrbB 0 (.slice none 0 0) (.slice none 0 0)):=xG2.get (x2.get g11)
 have g2:G[G2.length]?=some (rrbB R.L fw (.slice none 0 0)):=by rw [eG];exact get_eq rfl
 have hn:=(hW.ext xG).len (P:=prog) Fc.el33
 unfold ribB at eG1 g01 g02 g0
 unfold rrbB at eG1 eG
 refine ret_raw func54 rfl (by kernel_rfl) ?_
 have hsp:=@Nat.succ_ne_zero;repeat' (first|simp (disch:=first|exact dq|fail) only [go_sem,↓reduceIte,hsp,← eG1,g01,e2,g02,← eG,g0,hn]|refine WP_drw ?_|refine cnd_intro (fun hsp=>?_) fun hsp=>?_)
 refine WP_count [(5,5),(15,25)] 0 R.W.length (Nat.zero_le _) (fun _ i fr K=>fr 15=.int .i64 (i:Int)∧Ext G2 K∧G2.length+1≤K.length∧∃ w,K[G2.length]?=some (rrbB R.L fw w)∧Own encW 189 (G2.length+1) K w (R.W.take i)) ?_ ?_ ?_
 ·exact ⟨by (simp (disch:=first|exact dq|fail) only [go_sem,↓reduceIte,Int.natCast_zero];first|done|rfl),xG2,by omega,.slice none 0 0,g2,Own.nil⟩
 ·rintro i fr K hi0 hi hAg ⟨r15,xK,lK,w,gK2,oW⟩
  have q2:=hAg 2 rfl
  have q3:=hAg 3 rfl
  have q13:=hAg 13 rfl
  have q14:=hAg 14 rfl
  try simp (disch:=first|exact dq|fail) only [go_sem,↓reduceIte] at q2 q3 q13 q14
  have hlt:((i:Int)<(R.W.length:Int))=True:=eq_true (by omega)
  have ow:=oW.one
  obtain ⟨r,er⟩:∃ r,r=R.W[i]:=⟨_,rfl⟩
  have hx:R.W[i]?=some r:=by rw [er];exact List.getElem?_eq_getElem hi
  have iR:=hW.ext ((xG1.trans x2).trans xK)
  have hbK:base≤K.length:=by omega
  have ad:=wnt_ad iR hi
  have ld:=wnt_ld iR hx
  obtain ⟨K1,eK1⟩:∃ K1,K1=K++[wntBk r]:=⟨_,rfl⟩
  have y1:Ext K K1:=by rw [eK1];exact .app .refl
  have gr:K1[K.length]?=some (wntBk r):=by rw [eK1];exact get_eq rfl
  have st5:∀ (F:ABlk→Heap),stQ base K.length (some ⟨.cells [.int .i64 0,.int .i64 0,.int .i64 0,.int .i64 0,.int .i64 0] 50 false false,0⟩) 0 0 [.int .i64 r.lg,.int .i64 r.pr,.int .i64 r.off,.int .i64 r.fl,.int .i64 r.jn] F=some (F (wntBk r)):=fun F=>stQ_ok (by simp) rfl (by omega)
  have gK3:=y1.get gK2
  have ly1:K1.length=K.length+1:=by rw [eK1];simp
  obtain ⟨w',K2,ea,oW',lW,eW,oneW,kW⟩:=snocV (base:=base) (r:=r) (oW.ext y1) (by omega) (by omega) (by rw [List.length_take];omega)
  have gK5:=kW.box gK3
  have htk:R.W.take (i+1)=R.W.take i++[r]:=by rw [List.take_add_one,hx];rfl
  unfold rrbB at gK2 gK3 gK5
  unfold wntBk at eK1 gr st5
  have hsp:=@Nat.succ_ne_zero;repeat' (first|simp (disch:=first|exact dq|fail) only [go_sem,↓reduceIte,hsp,r15,q2,q3,q13,q14,hlt,ad,ld,st5,← eK1,gr,gK3,bsV1,ea,gK5]|refine WP_drw ?_|refine cnd_intro (fun hsp=>?_) fun hsp=>?_)
  exact ⟨agq,by omega,(eW G2 (by omega) (xK.trans y1)).set (by omega),by omega,w',by first|rfl|(rw [get_set (by omega)];simp),by rw [htk];exact oW'.setBox gK5⟩
 ·rintro fr K hAg ⟨r15,xK,lK,w,gK2,oW⟩
  have q2:=hAg 2 rfl
  have q3:=hAg 3 rfl
  have q13:=hAg 13 rfl
  have q14:=hAg 14 rfl
  try simp (disch:=first|exact dq|fail) only [go_sem,↓reduceIte] at q2 q3 q13 q14
  have hlt:((R.W.length:Int)<(R.W.length:Int))=False:=eq_false (by omega)
  rw [List.take_length] at oW
  have ow:=oW.one
  have gK1:=xK.get (x2.get g11)
  unfold rrbB at gK1 gK2
  have hsp:=@Nat.succ_ne_zero;repeat' (first|simp (disch:=first|exact dq|fail) only [go_sem,↓reduceIte,hsp,r15,q2,q3,q13,q14,hlt,gK2,gK1]|refine WP_drw ?_|refine cnd_intro (fun hsp=>?_) fun hsp=>?_)
  have xf:Ext h (K.set (h.length+1) ⟨.cells [.int .i64 R.L,fw,w] 123 false false,0⟩):=((xG1.trans x2).trans xK).set (by omega)
  have oW2:=oW.setBox (k:=⟨.cells [.int .i64 R.L,fw,w] 123 false false,0⟩) gK1
  have oF2:=(oF.ext xK).setBox (k:=⟨.cells [.int .i64 R.L,fw,w] 123 false false,0⟩) gK1
  exact ⟨xf,⟨fw,w,rfl,ownE_ints oF2 ⟨by omega,hF.1.2⟩,oW2.rows (by omega)⟩,fw,w,rfl,ofw,ow⟩
theorem run_rcuts {base:Nat} {h:Heap} {v:AVal} {l:List Ct} (hb:base≤h.length) (hA:Rows encC h v l) (hl:l.length≤1000) :
  Ret prog raw base (.fn 61 [] []) [v] h (fun w H=>Ext h H∧Own encC 129 h.length H w l):=by
 have o1:=hA.one
 have hn:=hA.len (P:=prog) Fc.el51
 refine ret_raw func61 rfl (by kernel_rfl) ?_
 have hsp:=@Nat.succ_ne_zero;repeat' (first|simp (disch:=first|exact dq|fail) only [go_sem,↓reduceIte,hsp,hn]|refine WP_drw ?_|refine cnd_intro (fun hsp=>?_) fun hsp=>?_)
 refine WP_count [(3,5),(8,16)] 0 l.length (Nat.zero_le _) (fun _ i fr K=>fr 8=.int .i64 (i:Int)∧Ext h K∧∃ w,fr 3=w∧Own encC 129 h.length K w (l.take i)) ?_ ?_ ?_
 ·exact ⟨by (simp (disch:=first|exact dq|fail) only [go_sem,↓reduceIte,Int.natCast_zero];first|done|rfl),.refl,.slice none 0 0,by (simp (disch:=first|exact dq|fail) only [go_sem,↓reduceIte,Int.natCast_zero];first|done|rfl),Own.nil⟩
 ·rintro i fr K hi0 hi hAg ⟨r8,xK,w,r3,oW⟩
  have q2:=hAg 2 rfl
  have q6:=hAg 6 rfl
  have q7:=hAg 7 rfl
  try simp (disch:=first|exact dq|fail) only [go_sem,↓reduceIte] at q2 q6 q7
  have hlt:((i:Int)<(l.length:Int))=True:=eq_true (by omega)
  have ow:=oW.one
  have lK:=xK.len
  obtain ⟨r,er⟩:∃ r,r=l[i]:=⟨_,rfl⟩
  have hx:l[i]?=some r:=by rw [er];exact List.getElem?_eq_getElem hi
  have ad:=ct_ad (hA.ext xK) hi
  have ld:=ct_ld (hA.ext xK) hx
  obtain ⟨K1,eK1⟩:∃ K1,K1=K++[cutB r]:=⟨_,rfl⟩
  have y1:Ext K K1:=by rw [eK1];exact .app .refl
  have gr:K1[K.length]?=some (cutB r):=by rw [eK1];exact get_eq rfl
  have ly1:K1.length=K.length+1:=by rw [eK1];simp
  obtain ⟨w',K2,ea,oW',lW,eW,oneW,kW⟩:=snocD (base:=base) (r:=r) (oW.ext y1) (by omega) (by omega) (by rw [List.length_take];omega)
  have htk:l.take (i+1)=l.take i++[r]:=by rw [List.take_add_one,hx];rfl
  unfold cutB at eK1 gr
  have hsp:=@Nat.succ_ne_zero;repeat' (first|simp (disch:=first|exact dq|fail) only [go_sem,↓reduceIte,hsp,r8,r3,q2,q6,q7,hlt,ad,ld,← eK1,gr,bsD1,ea]|refine WP_drw ?_|refine cnd_intro (fun hsp=>?_) fun hsp=>?_)
  exact ⟨agq,by omega,eW h (Nat.le_refl _) (xK.trans y1),w',by first|rfl|(simp (disch:=first|exact dq|fail) only [go_sem,↓reduceIte,Int.natCast_zero];first|done|rfl),by rw [htk];exact oW'⟩
 ·rintro fr K hAg ⟨r8,xK,w,r3,oW⟩
  have q2:=hAg 2 rfl
  have q6:=hAg 6 rfl
  have q7:=hAg 7 rfl
  try simp (disch:=first|exact dq|fail) only [go_sem,↓reduceIte] at q2 q6 q7
  have hlt:((l.length:Int)<(l.length:Int))=False:=eq_false (by omega)
  rw [List.take_length] at oW
  have ow:=oW.one
  have hsp:=@Nat.succ_ne_zero;repeat' (first|simp (disch:=first|exact dq|fail) only [go_sem,↓reduceIte,hsp,r8,r3,q2,q6,q7,hlt]|refine WP_drw ?_|refine cnd_intro (fun hsp=>?_) fun hsp=>?_)
  exact ⟨xK,oW⟩
end Go.AM
namespace Go.AM
open Go.Proofs.Tryz
attribute [-go_sem] put_ne put_same
attribute [local go_sem ↓] put_if
theorem cutO_ev {R:Rib} {x k:Nat} {w:Wnt} (hw:R.W[k]?=some w):cutO R x (2 * k)=(takL R w x false).map fun e=>(⟨(k:Int),(x:Int),false⟩,e):=by
 unfold cutO
 rw [show (2 * k) / 2=k by omega,hw,show decide ((2 * k) % 2=1)=false from decide_eq_false (by omega)]
theorem cutO_od {R:Rib} {x k:Nat} {w:Wnt} (hw:R.W[k]?=some w):cutO R x (2 * k+1)=(takL R w x true).map fun e=>(⟨(k:Int),(x:Int),true⟩,e):=by
 unfold cutO
 rw [show (2 * k+1) / 2=k by omega,hw,show decide ((2 * k+1) % 2=1)=true from decide_eq_true (by omega)]
theorem cutM_map {R:Rib} {x i:Nat}:(cutM R x (i+1)).map (·.1)=(cutM R x i).map (·.1)++((cutO R x i).map (·.1)).toList:=by
 rw [cutM_succ,List.map_append]
 cases cutO R x i<;>rfl
theorem cutM_len {R:Rib} {x i:Nat}:(cutM R x i).length≤i:=by
 unfold cutM
 exact Nat.le_trans (List.length_filterMap_le _ _) (by simp)
set_option maxRecDepth 100000 in
set_option maxHeartbeats 4000000 in
theorem run_rall {base:Nat} {h:Heap} {v:AVal} {R:Rib} {x:Nat} (hb:base≤h.length) (hA:RibAt h v R) (hR:RibOk R) (hx:x<R.L.toNat) :
  Ret prog raw base (.fn 58 [] []) [v,.int .i64 (x:Int)] h (fun u H=>Ext h H∧Own encC 129 h.length H u ((cutL R x).map (·.1))):=by
 have hAe:=fun H (e:Ext h H)=>hA.ext e
 obtain ⟨fv,wv,rfl,hF,hW⟩:=hA
 have o1:=hF.one
 have o2:=hW.one
 have hnW:=hR.nW
 obtain ⟨G,eG⟩:∃ G,G=h++[rrbB R.L fv wv]:=⟨_,rfl⟩
 have xG:Ext h G:=by rw [eG];exact .app .refl
 have g0:G[h.length]?=some (rrbB R.L fv wv):=by rw [eG];exact get_eq rfl
 have lG:G.length=h.length+1:=by rw [eG];simp
 unfold rrbB at eG
 refine ret_raw func58 rfl (by kernel_rfl) ?_
 have hsp:=@Nat.succ_ne_zero;repeat' (first|simp (disch:=first|exact dq|fail) only [go_sem,↓reduceIte,hsp,← eG]|refine WP_drw ?_|refine cnd_intro (fun hsp=>?_) fun hsp=>?_)
 refine WP_count [(5,51)] 0 R.W.length (Nat.zero_le _) (fun _ k fr K=>fr 6=.int .i64 (k:Int)∧Ext G K∧∃ w,fr 5=w∧Own encC 129 G.length K w ((cutM R x (2 * k)).map (·.1))) ?_ ?_ ?_
 ·exact ⟨by (simp (disch:=first|exact dq|fail) only [go_sem,↓reduceIte,Int.natCast_zero];first|done|rfl),.refl,.slice none 0 0,by (simp (disch:=first|exact dq|fail) only [go_sem,↓reduceIte,Int.natCast_zero];first|done|rfl),Own.nil⟩
 ·rintro k fr K hk0 hk hAg ⟨r6,xK,w0,r5,oW⟩
  have p1:=hAg 1 rfl
  have p2:=hAg 2 rfl
  have p4:=hAg 4 rfl
  try simp (disch:=first|exact dq|fail) only [go_sem,↓reduceIte] at p1 p2 p4
  have hlt:((k:Int)<(R.W.length:Int))=True:=eq_true (by omega)
  have ow:=oW.one
  have lK:=xK.len
  have hn:=rwn_len (hW.ext (xG.trans xK))
  have gK:=xK.get g0
  have hw:R.W[k]?=some R.W[k]:=List.getElem?_eq_getElem hk
  generalize R.W[k]=w at hw
  have cf:=cutM_map (R:=R) (x:=x) (i:=2 * k)
  rw [cutO_ev hw] at cf
  have ct:=cutM_map (R:=R) (x:=x) (i:=2 * k+1)
  rw [cutO_od hw] at ct
  have h1:=fun base=>run_allowed (base:=base) (j:=false) (hAe K (xG.trans xK)) hR hw hx
  unfold allV at h1
  cases q1:takL R w x false with
  | none =>
   rw [q1] at h1 cf
   simp only [Option.map_none,Option.toList,List.append_nil] at cf
   obtain ⟨K1,eK1⟩:∃ K1,K1=K:=⟨_,rfl⟩
   have xG1:Ext G K1:=by rw [eK1];exact xK
   have xK1:=xG.trans xG1
   have lK1:=xG1.len
   have oK1:Own encC 129 G.length K1 w0 ((cutM R x (2 * k+1)).map (·.1)):=by rw [cf,eK1];exact oW
   have gK1:=xG1.get g0
   have ea:=eK1
   unfold rrbB at gK
   subst eK1
   clear ea
   have ea:True:=trivial
   have h2:=fun base=>run_allowed (base:=base) (j:=true) (hAe K1 xK1) hR hw hx
   unfold allV at h2
   cases q2:takL R w x true with
   | none =>
    rw [q2] at h2 ct
    simp only [Option.map_none,Option.toList,List.append_nil] at ct
    unfold rrbB at gK1
    have hsp:=@Nat.succ_ne_zero;repeat' (first|simp (disch:=first|exact dq|fail) only [go_sem,↓reduceIte,hsp,r6,r5,p1,p2,p4,hn,hlt,gK,gK1,h1,bsD1,ea,h2]|refine WP_drw ?_|refine cnd_intro (fun hsp=>?_) fun hsp=>?_)
    exact ⟨agq,by omega,xG1,_,rfl,by rw [show 2 * (k+1)=2 * k+1+1 by omega,ct];exact oK1⟩
   | some e2 =>
    rw [q2] at h2 ct
    simp only [Option.map_some,Option.toList] at ct
    obtain ⟨w2,K2,ea2,oK2,lK2,eK2,one2,kK2⟩:=snocD (base:=base) (r:=⟨(k:Int),(x:Int),true⟩) oK1 (by omega) (by omega) (by rw [List.length_map];have:=cutM_len (R:=R) (x:=x) (i:=2 * k+1);omega)
    unfold rrbB at gK1
    have hsp:=@Nat.succ_ne_zero;repeat' (first|simp (disch:=first|exact dq|fail) only [go_sem,↓reduceIte,hsp,r6,r5,p1,p2,p4,hn,hlt,gK,gK1,h1,bsD1,ea,h2,ea2]|refine WP_drw ?_|refine cnd_intro (fun hsp=>?_) fun hsp=>?_)
    exact ⟨agq,by omega,eK2 G (by omega) xG1,_,rfl,by rw [show 2 * (k+1)=2 * k+1+1 by omega,ct];exact oK2⟩
  | some e1 =>
   rw [q1] at h1 cf
   simp only [Option.map_some,Option.toList] at cf
   obtain ⟨w1,K1,ea,oK1,lK1',eK1,one1,kK1⟩:=snocD (base:=base) (r:=⟨(k:Int),(x:Int),false⟩) oW (by omega) (by omega) (by rw [List.length_map];have:=cutM_len (R:=R) (x:=x) (i:=2 * k);omega)
   rw [← cf] at oK1
   have xG1:Ext G K1:=eK1 G (by omega) xK
   have xK1:=xG.trans xG1
   have lK1:=xG1.len
   have gK1:=xG1.get g0
   unfold rrbB at gK
   have h2:=fun base=>run_allowed (base:=base) (j:=true) (hAe K1 xK1) hR hw hx
   unfold allV at h2
   cases q2:takL R w x true with
   | none =>
    rw [q2] at h2 ct
    simp only [Option.map_none,Option.toList,List.append_nil] at ct
    unfold rrbB at gK1
    have hsp:=@Nat.succ_ne_zero;repeat' (first|simp (disch:=first|exact dq|fail) only [go_sem,↓reduceIte,hsp,r6,r5,p1,p2,p4,hn,hlt,gK,gK1,h1,bsD1,ea,h2]|refine WP_drw ?_|refine cnd_intro (fun hsp=>?_) fun hsp=>?_)
    exact ⟨agq,by omega,xG1,_,rfl,by rw [show 2 * (k+1)=2 * k+1+1 by omega,ct];exact oK1⟩
   | some e2 =>
    rw [q2] at h2 ct
    simp only [Option.map_some,Option.toList] at ct
    obtain ⟨w2,K2,ea2,oK2,lK2,eK2,one2,kK2⟩:=snocD (base:=base) (r:=⟨(k:Int),(x:Int),true⟩) oK1 (by omega) (by omega) (by rw [List.length_map];have:=cutM_len (R:=R) (x:=x) (i:=2 * k+1);omega)
    unfold rrbB at gK1
    have hsp:=@Nat.succ_ne_zero;repeat' (first|simp (disch:=first|exact dq|fail) only [go_sem,↓reduceIte,hsp,r6,r5,p1,p2,p4,hn,hlt,gK,gK1,h1,bsD1,ea,h2,ea2]|refine WP_drw ?_|refine cnd_intro (fun hsp=>?_) fun hsp=>?_)
    exact ⟨agq,by omega,eK2 G (by omega) xG1,_,rfl,by rw [show 2 * (k+1)=2 * k+1+1 by omega,ct];exact oK2⟩
 ·rintro fr K hAg ⟨r6,xK,w0,r5,oW⟩
  have p1:=hAg 1 rfl
  have p2:=hAg 2 rfl
  have p4:=hAg 4 rfl
  try simp (disch:=first|exact dq|fail) only [go_sem,↓reduceIte] at p1 p2 p4
  have hlt:((R.W.length:Int)<(R.W.length:Int))=False:=eq_false (by omega)
  have hn:=rwn_len (hW.ext (xG.trans xK))
  have ow:=oW.one
  have gK:=xK.get g0
  unfold rrbB at gK
  have hsp:=@Nat.succ_ne_zero;repeat' (first|simp (disch:=first|exact dq|fail) only [go_sem,↓reduceIte,hsp,r6,r5,p1,p2,p4,hn,hlt,gK]|refine WP_drw ?_|refine cnd_intro (fun hsp=>?_) fun hsp=>?_)
  exact ⟨xG.trans xK,by unfold cutL;exact oW.low (by omega)⟩
end Go.AM
