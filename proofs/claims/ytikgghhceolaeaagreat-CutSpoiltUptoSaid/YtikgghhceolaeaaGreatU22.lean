/-
  Plain: wants that bear no flaws are cut at no fault, and fewer faults earn no less.
-/
import Derived.Test.YtikgghhceolaeaaGreatU12
import Derived.Test.YtikgghhceolaeaaGreatU21
import Derived.Test.YtikgghhceolaeaaGreatU10
import Derived.Test.YtikgghhceolaeaaGreatU9
set_option linter.unusedSimpArgs false
set_option linter.unusedVariables false
namespace Go.AM
theorem unL_mono {bad:Nat→Bool} {j:Bool} {lg:Int}:∀ (n u:Nat) (o:List Int) (f:Int),f≤(unL bad j lg n u o f).2
 | 0,_,_,_=>Int.le_refl _
 | n+1,u,o,f=>by
  unfold unL
  split
  ·refine Int.le_trans ?_ (unL_mono n _ _ _)
   unfold unS
   split
   ·exact Int.le_refl _
   ·simp only
    split<;>omega
  ·exact Int.le_refl _
theorem gapB_iff {o:List Int} {u:Nat}:gapB o u=true ↔ 0<o.length∧o.getD (o.length-1) 0<(u:Int)-1:=by
 unfold gapB
 rw [Bool.and_eq_true,decide_eq_true_eq,decide_eq_true_eq]
theorem unL_gap {bad:Nat→Bool} {lg:Int}:∀ (n u:Nat) (o:List Int) (f:Int),gapB o u=true→(o.length:Int)<lg→(unL bad true lg n u o f).1=o ∨ f+1≤(unL bad true lg n u o f).2
 | 0,_,_,_,_,_=>.inl rfl
 | n+1,u,o,f,hg,hl=>by
  unfold unL
  rw [if_pos hl]
  by_cases b:bad u=true
  ·have e:unS bad true u o f=(o,f):=by unfold unS;rw [if_pos (by rw [b];rfl)]
   rw [e]
   refine unL_gap n (u+1) o f (gapB_iff.2 ?_) hl
   have:=gapB_iff.1 hg
   exact ⟨this.1,by omega⟩
  ·have b:bad u=false:=Bool.eq_false_iff.2 b
   have e:unS bad true u o f=(o++[(u:Int)],f+1):=by
    unfold unS
    rw [if_neg (by rw [b];decide),if_pos (by rw [hg];rfl)]
   rw [e]
   exact .inr (unL_mono n _ _ _)
theorem unL_clean {bad:Nat→Bool} {j:Bool} {lg:Int}:∀ (n u:Nat) (o:List Int),(j=true→o=[]→bad u=false)→(0<o.length→o.getD (o.length-1) 0=(u:Int)-1) →
  (unL bad j lg n u o 0).2≤0→((unL bad j lg n u o 0).1.length:Int)=lg →
  (∀ bad':Nat→Bool,(∀ y,bad' y=true→bad y=true)→unL bad' j lg n u o 0=unL bad j lg n u o 0) ∧
  (∀ y:Nat,u≤y→(y:Int)<u+(lg-o.length)→bad y=false) ∧
  (0<(unL bad j lg n u o 0).1.length→(unL bad j lg n u o 0).1.getD ((unL bad j lg n u o 0).1.length-1) 0+1=u+(lg-o.length))
 | 0,u,o,_,h2,_,h4=>by
  have h4:(o.length:Int)=lg:=h4
  refine ⟨fun _ _=>rfl,fun y h5 h6=>by omega,fun h5=>?_⟩
  have h5:0<o.length:=h5
  have:=h2 h5
  show o.getD (o.length-1) 0+1=_
  omega
 | n+1,u,o,h1,h2,h3,h4=>by
  by_cases c:(o.length:Int)<lg
  ·have e:∀ b:Nat→Bool,unL b j lg (n+1) u o 0=unL b j lg n (u+1) (unS b j u o 0).1 (unS b j u o 0).2:=fun b=>by rw [unL,if_pos c]
   by_cases b:bad u=true
   ·exfalso
    cases j with
    | false =>
     have e1:unS bad false u o 0=(o++[(u:Int)],1):=by
      unfold unS
      rw [if_neg (by simp),if_pos (by rw [b];rfl)];rfl
     rw [e,e1] at h3
     have:=unL_mono (bad:=bad) (j:=false) (lg:=lg) n (u+1) (o++[(u:Int)]) 1
     simp only at h3
     omega
    | true =>
     have ho:o ≠ []:=fun q=>by have:=h1 rfl q;rw [this] at b;cases b
     have ho:=List.length_pos_iff.2 ho
     have e1:unS bad true u o 0=(o,0):=by unfold unS;rw [if_pos (by rw [b];rfl)]
     rw [e,e1] at h3 h4
     have hg:gapB o (u+1)=true:=gapB_iff.2 ⟨ho,by have:=h2 ho;omega⟩
     rcases unL_gap (bad:=bad) (lg:=lg) n (u+1) o 0 hg c with q|q
     ·simp only at h4
      rw [q] at h4;omega
     ·simp only at h3
      omega
   ·have b:bad u=false:=Bool.eq_false_iff.2 b
    have hg:gapB o u=false:=Bool.eq_false_iff.2 fun q=>by
     have q:=gapB_iff.1 q
     have:=h2 q.1
     omega
    have e1:∀ b':Nat→Bool,b' u=false→unS b' j u o 0=(o++[(u:Int)],0):=fun b' hb=>by
     unfold unS
     rw [hb,hg,Bool.and_false,if_neg (by decide),if_neg (by decide)]
    rw [e,e1 bad b] at h3 h4 ⊢
    simp only at h3 h4 ⊢
    obtain ⟨i1,i2,i3⟩:=unL_clean n (u+1) (o++[(u:Int)]) (fun _ q=>by simp at q) (fun _=>by
     rw [List.length_append,List.length_cons,List.length_nil,List.getD_eq_getElem?_getD]
     simp) h3 h4
    have hl:((o++[(u:Int)]).length:Int)=o.length+1:=by simp
    rw [hl] at i2 i3
    refine ⟨fun bad' hb=>?_,fun y h5 h6=>?_,fun h5=>?_⟩
    ·have b':bad' u=false:=Bool.eq_false_iff.2 fun q=>by rw [hb u q] at b;cases b
     rw [e,e1 bad' b']
     exact i1 bad' hb
    ·by_cases d:y=u
     ·rw [d];exact b
     ·exact i2 y (by omega) (by omega)
    ·have:=i3 h5
     omega
  ·have e:∀ b:Nat→Bool,unL b j lg (n+1) u o 0=(o,0):=fun b=>by rw [unL,if_neg c]
   rw [e] at h4 ⊢
   simp only at h4 ⊢
   refine ⟨fun bad' _=>e bad',fun y h5 h6=>by omega,fun h5=>?_⟩
   have:=h2 h5
   omega
theorem takL_clean {R:Rib} {w:Wnt} {x:Nat} {j:Bool} {e p:Int} (hw:WntOk w) (h0:w.fl=0∧w.jn=0) (ht:takL R w x j=some (e,p)) :
  e=(x:Int)+w.lg∧(∀ u ∈ R.F,¬ ((x:Int)≤u∧u<e))∧∀ F':List Int,(∀ u ∈ F',u ∈ R.F)→takL ⟨R.L,F',R.W⟩ w x j=some (e,p):=by
 unfold takL at ht
 split at ht
 ·rename_i c
  obtain ⟨c1,c2⟩:=c
  have hl:limW w j=0:=by unfold limW;split<;>omega
  rw [hl] at c2
  unfold okT at c1
  rw [Bool.and_eq_true,decide_eq_true_eq,Bool.not_eq_true',Bool.and_eq_false_iff] at c1
  obtain ⟨c0,c1⟩:=c1
  have hlg:=hw.lg
  obtain ⟨k1,k2,k3⟩:=unL_clean (bad:=badF R) (j:=j) (lg:=w.lg) (R.L.toNat-x) x [] (fun q _=>by
   rcases c0 with c0|c0
   ·rw [q] at c0;cases c0
   ·exact c0) (fun q=>by simp at q) c2 c1
  simp only [List.length_nil] at k2 k3
  have c1':((unL (badF R) j w.lg (R.L.toNat-x) x [] 0).1.length:Int)=w.lg:=c1
  have k3:=k3 (by omega)
  simp only [Option.some.injEq,Prod.mk.injEq] at ht
  obtain ⟨he,hp⟩:=ht
  have he':e=(x:Int)+w.lg:=by rw [← he];unfold uniP;omega
  refine ⟨he',fun u hu hc=>?_,fun F' hF'=>?_⟩
  ·obtain ⟨y,ey⟩:=Int.eq_ofNat_of_zero_le (show 0≤u by omega)
   have:=k2 y (by omega) (by omega)
   unfold badF at this
   rw [decide_eq_false_iff_not,← ey] at this
   exact this hu
  ·have hb:∀ y,badF ⟨R.L,F',R.W⟩ y=true→badF R y=true:=fun y hy=>by
    unfold badF at hy ⊢
    rw [decide_eq_true_eq] at hy ⊢
    exact hF' _ hy
   have hu:uniP ⟨R.L,F',R.W⟩ w x j=uniP R w x j:=k1 _ hb
   unfold takL okT
   rw [hu,hl,if_pos]
   ·rw [he,hp]
   ·refine ⟨?_,c2⟩
    rw [Bool.and_eq_true,decide_eq_true_eq,Bool.not_eq_true',Bool.and_eq_false_iff]
    refine ⟨?_,c1⟩
    rcases c0 with c0|c0
    ·exact .inl c0
    ·exact .inr (Bool.eq_false_iff.2 fun q=>by rw [hb x q] at c0;cases c0)
 ·cases ht
theorem valD_less {L:Int} {F F':List Int} {W:List Wnt} (h0:∀ w ∈ W,w.fl=0∧w.jn=0) (hF:∀ u ∈ F',u ∈ F) (hR:RibOk ⟨L,F,W⟩) (hR':RibOk ⟨L,F',W⟩):valD ⟨L,F,W⟩ 0≤valD ⟨L,F',W⟩ 0 :=
 valD_mono hR hR' (Nat.le_refl _) fun k w x j e p _ hw ht=>by
  have hm:=List.mem_of_getElem? hw
  exact ⟨k,w,p,hw,(takL_clean (hR.W w hm) (h0 w hm) ht).2.2 F' hF,Int.le_refl _⟩
end Go.AM
namespace Go.AM
open Go.Proofs.Tryz
attribute [-go_sem] put_ne put_same
attribute [local go_sem ↓] put_if
end Go.AM
namespace Go.AM
open Go.Proofs.Tryz
attribute [-go_sem] put_ne put_same
attribute [local go_sem ↓] put_if
end Go.AM
namespace Go.AM
open Go.Proofs.Tryz
attribute [-go_sem] put_ne put_same
attribute [local go_sem ↓] put_if
end Go.AM
namespace Go.AM
open Go.Proofs.Tryz Go.RowKit Go.ChangeShapes Go.WideShapes Go.ChangeAt
open Go.Proofs.YtikgghhceolaeaaGreat (Rows.uptoSmall Rows.uptoBulkAll Rows.uptoBulk)
set_option maxRecDepth 100000
def Rw.okG (μ:Mu) (w:World) (r:Rw):Prop:=∃ (C:Array Value) (T:TypeId) (fz:Nat × Nat),w.heap[r.blk]?=some (.cells C T fz)∧r.off+r.cs.length≤C.size ∧
 ∀ (i:Nat) (x:AVal) (y:Value),r.cs[i]?=some x→C[r.off+i]?=some y→VR μ x y
def RsOk (w:World) (R:List Rw):Prop:=∀ r ∈ R,r.okG (muR R) w
def Opens (W:World) (cs:List Value) (Q:Heap→List AVal→Prop):Prop:=∀ R,RsOk W R→∃ S vs,RsOk W (R++S)∧VRs (muR (R++S)) vs cs∧Q (heapR (R++S)) vs
def OpensV (W:World) (V:Value) (Q:Heap→AVal→Prop):Prop:=∀ R,RsOk W R→∃ S v,RsOk W (R++S)∧VR (muR (R++S)) v V∧Q (heapR (R++S)) v
end Go.AM
namespace Go.AM
open Go.Proofs.Tryz
attribute [-go_sem] put_ne put_same
attribute [local go_sem ↓] put_if
def RibN (N:Nat) (H:Heap) (v:AVal):Prop:=∃ R,RibAt H v R∧R.F.length≤N∧R.W.length≤N
def CutV (_:Heap) (v:AVal):Prop:=∃ c:Ct,v=.agg [.int .i64 c.w,.int .i64 c.f,.bool c.j]
def IntV (_:Heap) (v:AVal):Prop:=∃ n:Int,v=.int .i64 n
end Go.AM
namespace Go.AM
open Go.Proofs.Tryz Go.RowKit Go.ChangeShapes Go.WideShapes Go.ChangeAt
open Go.Proofs.YtikgghhceolaeaaGreat (Rows.uptoSmall Rows.uptoBulkAll Rows.uptoBulk)
set_option maxRecDepth 100000
def IntsN (N:Nat) (H:Heap) (v:AVal):Prop:=∃ l,Ints H v l∧l.length≤N
def CtsN (N:Nat) (H:Heap) (v:AVal):Prop:=∃ l,Rows encC H v l∧l.length≤N
section
variable {H:Type} {enc:TypeId × Value→H} {W:World} {n N:Nat}
end
end Go.AM
namespace Go.AM
open Go.Proofs.Tryz
attribute [-go_sem] put_ne put_same
attribute [local go_sem ↓] put_if
end Go.AM
namespace Go.AM
open Go.Proofs.Tryz
attribute [-go_sem] put_ne put_same
attribute [local go_sem ↓] put_if
section
variable {base id:Nat} {h:Heap} {m:List Wnt}
abbrev wB (m:List Wnt):ABlk:=rowE encW 50 m 0
def wnt0:Wnt:=⟨0,0,0,0,0⟩
end
end Go.AM
namespace Go.AM
open Go.Proofs.Tryz
attribute [-go_sem] put_ne put_same
attribute [local go_sem ↓] put_if
def nedE (R:Rib):List Int:=if chkR R ≠ 0 then [] else nedL R
def nedN (R:Rib) (n:Nat):List Int:=(upto n).filter fun k=>decide (valD (witR R k.toNat) 0<valD R 0)
end Go.AM
namespace Go.AM
open Go.Proofs.Tryz
attribute [-go_sem] put_ne put_same
attribute [local go_sem ↓] put_if
structure Hld (R:Rib) (V:List Int):Prop where
 up:∀ x,x<R.L.toNat→V.getD (x+1) 0≤V.getD x 0
 cut:∀ x,x<R.L.toNat→∀ c ∈ cutL R x,c.2.2+V.getD c.2.1.toNat 0≤V.getD x 0
 fin:0≤V.getD R.L.toNat 0
abbrev boB (b:Bool):ABlk:=⟨.cells [.bool b] 4 false false,0⟩
end Go.AM
namespace Go.AM
open Go.Proofs.Tryz
attribute [-go_sem] put_ne put_same
attribute [local go_sem ↓] put_if
def padV (l:List Int):List Int:=l++List.replicate (61-l.length) 0
def vldE (R:Rib) (l:List Int):Int:=if chkR R ≠ 0 then chkR R else if (l.length:Int) ≠ R.L+1 then 2 else if ¬ (l.all fun y=>decide (-10000≤y∧y≤10000))=true then 3 else 0
end Go.AM
namespace Go.AM
open Go.Proofs.Tryz
attribute [-go_sem] put_ne put_same
attribute [local go_sem ↓] put_if
noncomputable def hldB (R:Rib) (V:List Int):Bool:=@decide (Hld R V) (Classical.propDecidable _)
noncomputable def hldE (R:Rib) (l:List Int):Bool:=decide (vldE R l=0) && hldB R l
noncomputable def bndE (R:Rib) (l:List Int):Int × Int:=if vldE R l ≠ 0 then (0,vldE R l) else if hldB R l=true then (l.getD 0 0,0) else (0,8)
end Go.AM
namespace Go.AM
open Go.Proofs.Tryz
attribute [-go_sem] put_ne put_same
attribute [local go_sem ↓] put_if
end Go.AM
namespace Go.AM
open Go.Proofs.Tryz
attribute [-go_sem] put_ne put_same
attribute [local go_sem ↓] put_if
end Go.AM
namespace Go.AM
open Go.Proofs.Tryz
attribute [-go_sem] put_ne put_same
attribute [local go_sem ↓] put_if
end Go.AM
namespace Go.AM
open Go.Proofs.Tryz
attribute [-go_sem] put_ne put_same
attribute [local go_sem ↓] put_if
def lssN (R:Rib) (k i:Nat):List Wnt:=(R.W.take i).eraseIdx k
end Go.AM
namespace Go.AM
open Go.Proofs.Tryz
attribute [-go_sem] put_ne put_same
attribute [local go_sem ↓] put_if
def usP (R:Rib) (n:Nat):List Int:=(upto n).filter fun k=>decide (k ∈ usN R R.L.toNat)
end Go.AM
namespace Go.AM
open Go.Proofs.Tryz
attribute [-go_sem] put_ne put_same
attribute [local go_sem ↓] put_if
def tknW (R:Rib) (w:Wnt) (x:Nat) (j:Bool):Int × Int × Bool :=
 if j=true then (if okT R w x true=true then ((uniP R w x true).1.getD ((uniP R w x true).1.length-1) 0+1,max 0 (w.pr-w.off * (uniP R w x true).2),decide ((uniP R w x true).2≤w.jn)) else (0,0,false))
 else ((x:Int)+w.lg,max 0 (w.pr-w.off * cntB (badF R) x w.lg.toNat),decide ((x:Int)+w.lg≤R.L) && decide (cntB (badF R) x w.lg.toNat≤w.fl))
def tknR (R:Rib) (c:Ct):Int × Int × Bool:=if (0≤c.w∧c.w≤(R.W.length:Int)-1)∧(0≤c.f∧c.f≤R.L-1) then (match R.W[c.w.toNat]? with|none=>(0,0,false)|some w=>tknW R w c.f.toNat c.j) else (0,0,false)
theorem tknW_f {R:Rib} {w:Wnt} {x:Nat}:tknW R w x false=((x:Int)+w.lg,max 0 (w.pr-w.off * cntB (badF R) x w.lg.toNat),decide ((x:Int)+w.lg≤R.L) && decide (cntB (badF R) x w.lg.toNat≤w.fl)):=rfl
theorem tknW_is {R:Rib} {w:Wnt} {x:Nat} {j:Bool} (hw:WntOk w) (hx:x<R.L.toNat):takL R w x j=if (tknW R w x j).2.2=true then some ((tknW R w x j).1,(tknW R w x j).2.1) else none:=by
 cases j with
 | true =>
  unfold takL tknW
  rw [if_pos rfl]
  by_cases c:okT R w x true=true
  ·rw [if_pos c]
   by_cases d:(uniP R w x true).2≤w.jn
   ·rw [if_pos ⟨c,d⟩,if_pos (decide_eq_true d)]
   ·rw [if_neg (fun q=>d q.2),if_neg (by simpa using d)]
  ·rw [if_neg c,if_neg (fun q=>c q.1),if_neg (by simp)]
 | false =>
  rw [takL_free hw hx,tknW_f]
  by_cases c:(x:Int)+w.lg≤R.L∧cntB (badF R) x w.lg.toNat≤w.fl
  ·rw [if_pos c,if_pos (by rw [decide_eq_true c.1,decide_eq_true c.2];rfl)]
  ·rw [if_neg c,if_neg (fun q=>c (by rw [Bool.and_eq_true,decide_eq_true_eq,decide_eq_true_eq] at q;exact q))]
def gpI (o:List Int) (u:Nat):Int:=if gapB o u=true then 1 else 0
structure Jn (R:Rib) (w:Wnt) (x u:Nat) (o:List Int) (f:Int):Prop where
 k:UnK x 0 w.lg u o f
 un:unL (badF R) true w.lg (R.L.toNat-u) u o f=uniP R w x true
 st:o=[]→u=x
 hd:x<u→badF R x=false
 ls:o ≠ []→if badF R (u-1)=true then o.getD (o.length-1) 0<(u:Int)-1 else o.getD (o.length-1) 0=(u:Int)-1
 en:(o.length:Int)=w.lg→o.getD (o.length-1) 0=(u:Int)-1
theorem gap_is {R:Rib} {w:Wnt} {x u:Nat} {o:List Int} {f:Int} (h:Jn R w x u o f) (h0:o ≠ []):gapB o u=badF R (u-1):=by
 have hl:0<o.length:=List.length_pos_iff.2 h0
 have:=h.ls h0
 unfold gapB
 rw [decide_eq_true hl,Bool.true_and]
 by_cases c:badF R (u-1)=true
 ·rw [if_pos c] at this
  rw [c,decide_eq_true this]
 ·rw [if_neg c] at this
  rw [Bool.not_eq_true] at c
  rw [c,decide_eq_false (by omega)]
theorem getD_last {l:List Int} {x:Int}:(l++[x]).getD ((l++[x]).length-1) 0=x:=by
 simp [List.getD_eq_getElem?_getD]
theorem Jn.good {R:Rib} {w:Wnt} {x u:Nat} {o:List Int} {f:Int} (h:Jn R w x u o f) (hu:u<R.L.toNat) (hl:(o.length:Int)<w.lg) (hb:badF R u=false):Jn R w x (u+1) (o++[(u:Int)]) (f+gpI o u)∧gpI (o++[(u:Int)]) (u+1)=0:=by
 have eS:unS (badF R) true u o f=(o++[(u:Int)],f+gpI o u):=by
  unfold unS gpI
  rw [hb]
  simp only [Bool.true_and,Bool.or_false,Bool.false_eq_true,if_false]
  by_cases c:gapB o u=true
  ·rw [if_pos c,if_pos c]
  ·rw [if_neg c,if_neg c,Int.add_zero]
 have hk:=h.k.step (j:=true) (bad:=badF R) hl
 have hun:=h.un
 rw [unL_at hu,if_pos hl,eS] at hun
 rw [eS] at hk
 refine ⟨⟨hk,hun,fun q=>by simp at q,fun q=>?_,fun _=>?_,fun _=>?_⟩,?_⟩
 ·by_cases e:x<u
  ·exact h.hd e
  ·have hx:=h.k.n
   rw [show x=u by omega];exact hb
 ·rw [getD_last,Nat.add_sub_cancel,hb,if_neg (by simp)];omega
 ·rw [getD_last];omega
 ·have h2:¬ ((u:Int)<((u+1:Nat):Int)-1):=by omega
  unfold gpI gapB
  rw [getD_last,decide_eq_false h2,Bool.and_false,if_neg (by simp)]
theorem Jn.bad {R:Rib} {w:Wnt} {x u:Nat} {o:List Int} {f:Int} (h:Jn R w x u o f) (hu:u<R.L.toNat) (hl:(o.length:Int)<w.lg) (hb:badF R u=true) (hx:u ≠ x):Jn R w x (u+1) o f∧gpI o (u+1)=1∧gpI o u=if badF R (u-1)=true then 1 else 0:=by
 have h0:o ≠ []:=fun q=>hx (h.st q)
 have hlo:0<o.length:=List.length_pos_iff.2 h0
 have eS:unS (badF R) true u o f=(o,f):=by unfold unS;rw [hb];rfl
 have hk:=h.k.step (j:=true) (bad:=badF R) hl
 have hun:=h.un
 rw [unL_at hu,if_pos hl,eS] at hun
 rw [eS] at hk
 have hm:=h.k.b _ (getD_mem' (l:=o) (d:=0) (i:=o.length-1) (by omega))
 refine ⟨⟨hk,hun,fun q=>absurd q h0,fun q=>?_,fun _=>?_,fun q=>by omega⟩,?_,?_⟩
 ·have:=h.k.n
  exact h.hd (by omega)
 ·rw [Nat.add_sub_cancel,hb,if_pos rfl];omega
 ·unfold gpI gapB
  rw [decide_eq_true hlo,decide_eq_true (by omega)];rfl
 ·unfold gpI
  rw [gap_is h h0]
set_option maxRecDepth 100000 in
set_option maxHeartbeats 8000000 in
theorem run_taken {base:Nat} {h:Heap} {v:AVal} {R:Rib} {c:Ct} (hA:RibAt h v R) (hR:RibOk R) :
  callL prog raw base (.fn 13 [] []) [v,.agg [.int .i64 c.w,.int .i64 c.f,.bool c.j]] h=some (.tuple [.int .i64 (tknR R c).1,.int .i64 (tknR R c).2.1,.bool (tknR R c).2.2],h):=by
 have hAe:=fun H (e:Ext h H)=>hA.ext e
 obtain ⟨fv,wv,rfl,hF,hW⟩:=hA
 have o1:=hF.one
 have o2:=hW.one
 have hL:=hR.L
 have hnF:=hR.nF
 have hnW:=hR.nW
 obtain ⟨cw,cf,cj⟩:=c
 obtain ⟨G0,eG0⟩:∃ G0,G0=h++[ribB R.L fv wv]++[cutB ⟨cw,cf,cj⟩]:=⟨_,rfl⟩
 have x0:Ext h G0:=by rw [eG0];exact .app (.app .refl)
 have g0:G0[h.length]?=some (ribB R.L fv wv):=by rw [eG0];exact get_app (get_eq rfl)
 have g1:G0[h.length+1]?=some (cutB ⟨cw,cf,cj⟩):=by rw [eG0];exact get_eq (by simp)
 have l0:G0.length=h.length+2:=by rw [eG0];simp
 have hn:=(hW.ext x0).len (P:=prog) Fc.el33
 unfold ribB cutB at eG0
 unfold ribB at g0
 unfold cutB at g1
 refine callL_run func13 rfl rfl ?_
 by_cases ct:(0≤cw∧cw≤(R.W.length:Int)-1)∧(0≤cf∧cf≤R.L-1)
 ·obtain ⟨k,rfl⟩:=Int.eq_ofNat_of_zero_le ct.1.1
  obtain ⟨x,rfl⟩:=Int.eq_ofNat_of_zero_le ct.2.1
  have hkl:k<R.W.length:=by omega
  have hw:R.W[k]?=some R.W[k]:=List.getElem?_eq_getElem hkl
  generalize R.W[k]=w at hw
  have hwo:=hR.W w (List.mem_of_getElem? hw)
  have hlg:=hwo.lg
  have hpr:=hwo.pr
  have hof:=hwo.off
  have hx:x<R.L.toNat:=by omega
  have e0:tknR R ⟨(k:Int),(x:Int),cj⟩=tknW R w x cj:=by
   unfold tknR
   simp only
   rw [if_pos ct,Int.toNat_natCast,hw,Int.toNat_natCast]
  rw [e0]
  have t1:((k:Int)<0)=False:=eq_false (by omega)
  have t2:((k:Int) ≥ (R.W.length:Int))=False:=eq_false (by omega)
  have t3:((x:Int)<0)=False:=eq_false (by omega)
  have t4:((x:Int) ≥ R.L)=False:=eq_false (by omega)
  have a1:=wnt_ad (hW.ext x0) hkl
  have b1:=wnt_ld (hW.ext x0) hw
  obtain ⟨G1,eG1⟩:∃ G1,G1=G0++[wntBk w]:=⟨_,rfl⟩
  have x1:Ext G0 G1:=by rw [eG1];exact .app .refl
  have gw:G1[G0.length]?=some (wntBk w):=by rw [eG1];exact get_eq rfl
  have g01:=x1.get g0
  have g11:=x1.get g1
  have xh:=x0.trans x1
  have st5:∀ (F:ABlk→Heap),stQ h.length G0.length (some ⟨.cells [.int .i64 0,.int .i64 0,.int .i64 0,.int .i64 0,.int .i64 0] 50 false false,0⟩) 0 0 [.int .i64 w.lg,.int .i64 w.pr,.int .i64 w.off,.int .i64 w.fl,.int .i64 w.jn] F=some (F (wntBk w)):=fun F=>stQ_ok (by simp) rfl (by omega)
  have iF:=hF.ext xh
  have hnf:=lenI iF
  unfold wntBk at eG1 gw st5
  cases cj with
  | false =>
   obtain ⟨m,em⟩:∃ m,m=w.lg.toNat:=⟨_,rfl⟩
   have hsp:=@Nat.succ_ne_zero;repeat' (first|simp (disch:=first|exact dqb|fail) only [go_sem,↓reduceIte,hsp,← eG0,g0,g1,hn,t1,t2,t3,t4,a1,b1,st5,← eG1,g01,g11,gw,hnf]|refine WP_drw ?_|refine cnd_intro (fun hsp=>?_) fun hsp=>?_)
   refine WP_count [(9,11),(55,70)] 0 R.F.length (Nat.zero_le _) (fun _ i fr H=>fr 55=.int .i64 (i:Int)∧H=G1∧fr 9=.int .i64 (((R.F.take i).filter (inRg x m)).length:Int)) ?_ ?_ ?_
   ·exact ⟨by (simp (disch:=first|exact dqb|fail) only [go_sem,↓reduceIte,Int.natCast_zero];first|done|rfl),rfl,by simp (disch:=first|exact dqb|fail) only [go_sem,↓reduceIte];rfl⟩
   ·rintro i fr H hi0 hi hAg ⟨r55,rfl,r9⟩
    have q2:=hAg 2 rfl
    have q3:=hAg 3 rfl
    have q4:=hAg 4 rfl
    have q5:=hAg 5 rfl
    have q6:=hAg 6 rfl
    have q7:=hAg 7 rfl
    have q8:=hAg 8 rfl
    have q53:=hAg 53 rfl
    have q54:=hAg 54 rfl
    try simp (disch:=first|exact dqb|fail) only [go_sem,↓reduceIte] at q2 q3 q4 q5 q6 q7 q8 q53 q54
    have hlt:((i:Int)<(R.F.length:Int))=True:=eq_true (by omega)
    have ai:=adrI (i:=(i:Int)) (by omega) iF (by omega)
    rw [Int.toNat_natCast] at ai
    have li:=loadI iF hi
    have hle:((R.F.take i).filter (inRg x m)).length≤i:=Nat.le_trans (List.length_filter_le _ _) (by rw [List.length_take];omega)
    have htk:(R.F.take (i+1)).filter (inRg x m)=(R.F.take i).filter (inRg x m)++if inRg x m (R.F.getD i 0)=true then [R.F.getD i 0] else []:=by
     rw [take_succD hi,List.filter_append,List.filter_cons,List.filter_nil]
    obtain ⟨y,ey⟩:∃ y,y=R.F.getD i 0:=⟨_,rfl⟩
    rw [← ey] at li htk
    by_cases y1:(x:Int)≤y
    ·have u1:(y ≥ (x:Int))=True:=eq_true y1
     by_cases y2:y<(x:Int)+w.lg
     ·have u2:(y<(x:Int)+w.lg)=True:=eq_true y2
      rw [if_pos (by unfold inRg;exact decide_eq_true ⟨y1,by omega⟩)] at htk
      have hsp:=@Nat.succ_ne_zero;repeat' (first|simp (disch:=first|exact dqb|fail) only [go_sem,↓reduceIte,hsp,r55,r9,q2,q3,q4,q5,q6,q7,q8,q53,q54,hlt,ai,li,g11,u1,u2]|refine WP_drw ?_|refine cnd_intro (fun hsp=>?_) fun hsp=>?_)
      exact ⟨agq,by omega,by rw [htk];simp⟩
     ·have u2:(y<(x:Int)+w.lg)=False:=eq_false y2
      rw [if_neg (by unfold inRg;rw [decide_eq_true_eq];omega),List.append_nil] at htk
      have hsp:=@Nat.succ_ne_zero;repeat' (first|simp (disch:=first|exact dqb|fail) only [go_sem,↓reduceIte,hsp,r55,r9,q2,q3,q4,q5,q6,q7,q8,q53,q54,hlt,ai,li,g11,u1,u2]|refine WP_drw ?_|refine cnd_intro (fun hsp=>?_) fun hsp=>?_)
      exact ⟨agq,by omega,by rw [htk]⟩
    ·have u1:(y ≥ (x:Int))=False:=eq_false y1
     rw [if_neg (by unfold inRg;rw [decide_eq_true_eq];omega),List.append_nil] at htk
     have hsp:=@Nat.succ_ne_zero;repeat' (first|simp (disch:=first|exact dqb|fail) only [go_sem,↓reduceIte,hsp,r55,r9,q2,q3,q4,q5,q6,q7,q8,q53,q54,hlt,ai,li,g11,u1]|refine WP_drw ?_|refine cnd_intro (fun hsp=>?_) fun hsp=>?_)
     exact ⟨agq,by omega,by rw [htk]⟩
   ·rintro fr H hAg ⟨r55,rfl,r9⟩
    have q2:=hAg 2 rfl
    have q3:=hAg 3 rfl
    have q4:=hAg 4 rfl
    have q5:=hAg 5 rfl
    have q6:=hAg 6 rfl
    have q7:=hAg 7 rfl
    have q8:=hAg 8 rfl
    have q53:=hAg 53 rfl
    have q54:=hAg 54 rfl
    try simp (disch:=first|exact dqb|fail) only [go_sem,↓reduceIte] at q2 q3 q4 q5 q6 q7 q8 q53 q54
    have hlt:((R.F.length:Int)<(R.F.length:Int))=False:=eq_false (by omega)
    rw [List.take_length,cnt_faults hR] at r9
    have hcl:0≤cntB (badF R) x m∧cntB (badF R) x m≤12:=by
     rw [← cnt_faults hR]
     have:=List.length_filter_le (inRg x m) R.F
     omega
    obtain ⟨n,ecn⟩:∃ n,n=cntB (badF R) x m:=⟨_,rfl⟩
    rw [← ecn] at r9 hcl
    have hmul:0≤n * w.off∧n * w.off≤240:=⟨Int.mul_nonneg hcl.1 hof.1,by
     have:=Int.mul_le_mul hcl.2 hof.2 hof.1 (by omega:(0:Int)≤12)
     omega⟩
    have et:tknW R w x false=((x:Int)+w.lg,max 0 (w.pr-n * w.off),decide ((x:Int)+w.lg≤R.L) && decide (n≤w.fl)):=by
     rw [tknW_f,← em,← ecn,Int.mul_comm]
    rw [et]
    by_cases y1:(x:Int)+w.lg≤R.L
    ·have u1:((x:Int)+w.lg≤R.L)=True:=eq_true y1
     rw [decide_eq_true y1,Bool.true_and]
     have hsp:=@Nat.succ_ne_zero;repeat' (first|simp (disch:=first|exact dqb|fail) only [go_sem,↓reduceIte,hsp,r55,r9,q2,q3,q4,q5,q6,q7,q8,q53,q54,hlt,gw,g01,u1]|refine WP_drw ?_|refine cnd_intro (fun hsp=>?_) fun hsp=>?_)
     exact fin_pl rfl rfl xh
    ·have u1:((x:Int)+w.lg≤R.L)=False:=eq_false y1
     rw [decide_eq_false y1,Bool.false_and]
     have hsp:=@Nat.succ_ne_zero;repeat' (first|simp (disch:=first|exact dqb|fail) only [go_sem,↓reduceIte,hsp,r55,r9,q2,q3,q4,q5,q6,q7,q8,q53,q54,hlt,gw,g01,u1]|refine WP_drw ?_|refine cnd_intro (fun hsp=>?_) fun hsp=>?_)
     exact fin_pl rfl rfl xh
  | true =>
   have hsp:=@Nat.succ_ne_zero;repeat' (first|simp (disch:=first|exact dqb|fail) only [go_sem,↓reduceIte,hsp,← eG0,g0,g1,hn,t1,t2,t3,t4,a1,b1,st5,← eG1,g01,g11,gw,hnf]|refine WP_drw ?_|refine cnd_intro (fun hsp=>?_) fun hsp=>?_)
   refine WP_count [(4,6),(12,120)] x R.L.toNat (by omega) (fun _ u fr H=>fr 12=.int .i64 (u:Int)∧H=G1∧∃ o f,fr 13=.int .i64 (f+gpI o u)∧fr 14=.int .i64 (w.lg-o.length)∧Jn R w x u o f) ?_ ?_ ?_
   ·refine ⟨by (simp (disch:=first|exact dqb|fail) only [go_sem,↓reduceIte,Int.natCast_zero];first|done|rfl),rfl,[],0,by simp (disch:=first|exact dqb|fail) only [go_sem,↓reduceIte];rfl,by simp (disch:=first|exact dqb|fail) only [go_sem,↓reduceIte];simp,⟨UnK.start,rfl,fun _=>rfl,fun q=>by omega,fun q=>absurd rfl q,fun q=>by simp at q;omega⟩⟩
   ·rintro u fr H hu0 hu hAg ⟨r12,rfl,o,f,r13,r14,hj⟩
    have q2:=hAg 2 rfl
    have q3:=hAg 3 rfl
    have q7:=hAg 7 rfl
    try simp (disch:=first|exact dqb|fail) only [go_sem,↓reduceIte] at q2 q3 q7
    have hog:=hj.k.g
    have hfb:=hj.k.f
    have hol:=hj.k.n
    have hgb:0≤gpI o u∧gpI o u≤1:=by unfold gpI;split<;>omega
    by_cases y0:(o.length:Int)<w.lg
    ·have u0:(w.lg-(o.length:Int) > 0)=True:=eq_true (by omega)
     have u1:((u:Int) ≥ R.L)=False:=eq_false (by omega)
     have hc1:=fun base=>run_contains (base:=base) (x:=(u:Int)) iF
     have hc2:=fun base=>run_contains (base:=base) (x:=(u:Int)-1) iF
     rcases Bool.eq_false_or_eq_true (badF R u) with qb|qb
     ·rw [show decide ((u:Int) ∈ R.F)=true from qb] at hc1
      by_cases y2:u=x
      ·have u2:((u:Int)=(x:Int))=True:=eq_true (by omega)
       have et:tknW R w x true=(0,0,false):=by
        unfold tknW
        rw [if_pos rfl,if_neg]
        unfold okT
        rw [← y2,qb];simp
       rw [et]
       have hsp:=@Nat.succ_ne_zero;repeat' (first|simp (disch:=first|exact dqb|fail) only [go_sem,↓reduceIte,hsp,r12,r13,r14,q2,q3,q7,u0,g01,u1,hc1,Bool.not_true,g11,u2]|refine WP_drw ?_|refine cnd_intro (fun hsp=>?_) fun hsp=>?_)
       exact fin_pl rfl rfl xh
      ·have u2:((u:Int)=(x:Int))=False:=eq_false (by omega)
       obtain ⟨hj2,hg2,hg1⟩:=hj.bad hu y0 qb y2
       have ep:decide ((u:Int)-1 ∈ R.F)=badF R (u-1):=by unfold badF;rw [show ((u-1:Nat):Int)=(u:Int)-1 by omega]
       rw [ep] at hc2
       rcases Bool.eq_false_or_eq_true (badF R (u-1)) with qp|qp
       ·rw [qp] at hc2
        rw [qp,if_pos rfl] at hg1
        have hsp:=@Nat.succ_ne_zero;repeat' (first|simp (disch:=first|exact dqb|fail) only [go_sem,↓reduceIte,hsp,r12,r13,r14,q2,q3,q7,u0,g01,u1,hc1,Bool.not_true,g11,u2,hc2]|refine WP_drw ?_|refine cnd_intro (fun hsp=>?_) fun hsp=>?_)
        exact ⟨agq,by omega,o,f,by rw [hg2,hg1],rfl,hj2⟩
       ·rw [qp] at hc2
        rw [qp,if_neg (by simp)] at hg1
        have hsp:=@Nat.succ_ne_zero;repeat' (first|simp (disch:=first|exact dqb|fail) only [go_sem,↓reduceIte,hsp,r12,r13,r14,q2,q3,q7,u0,g01,u1,hc1,Bool.not_true,g11,u2,hc2,Bool.not_false]|refine WP_drw ?_|refine cnd_intro (fun hsp=>?_) fun hsp=>?_)
        exact ⟨agq,by omega,o,f,by rw [hg2,hg1];simp,rfl,hj2⟩
     ·rw [show decide ((u:Int) ∈ R.F)=false from qb] at hc1
      obtain ⟨hj2,hg2⟩:=hj.good hu y0 qb
      have hsp:=@Nat.succ_ne_zero;repeat' (first|simp (disch:=first|exact dqb|fail) only [go_sem,↓reduceIte,hsp,r12,r13,r14,q2,q3,q7,u0,g01,u1,hc1,Bool.not_false]|refine WP_drw ?_|refine cnd_intro (fun hsp=>?_) fun hsp=>?_)
      exact ⟨agq,by omega,_,_,by rw [hg2,Int.add_zero],by rw [show w.lg-(((o++[(u:Int)]).length:Nat):Int)=w.lg-(o.length:Int)-1 by rw [List.length_append,List.length_singleton];omega],hj2⟩
    ·have u0:(w.lg-(o.length:Int) > 0)=False:=eq_false (by omega)
     have hlg:(o.length:Int)=w.lg:=by omega
     have hen:=hj.en hlg
     have hun:=hj.un
     have hno:¬ (o.getD (o.length-1) 0<(u:Int)-1):=by omega
     have hg0:gpI o u=0:=by unfold gpI gapB;rw [decide_eq_false hno,Bool.and_false,if_neg (by simp)]
     have huo:uniP R w x true=(o,f):=by
      rw [← hun]
      by_cases c:u<R.L.toNat
      ·rw [unL_at c,if_neg (by omega)]
      ·rw [show R.L.toNat-u=0 by omega,unL]
     have hxu:x<u:=by have:=hj.k.n;omega
     have hok:okT R w x true=true:=by unfold okT;rw [hj.hd hxu,huo,decide_eq_true hlg];rfl
     have et:tknW R w x true=((u:Int),max 0 (w.pr-w.off * f),decide (f≤w.jn)):=by
      unfold tknW;rw [if_pos rfl,if_pos hok,huo];simp only;rw [hen];congr 1;omega
     have hfb:=hj.k.f
     have hol:=hj.k.n
     have hmul:0≤w.off * f∧w.off * f≤1200:=⟨Int.mul_nonneg hof.1 hfb.1,by
      have:=Int.mul_le_mul hof.2 (show f≤60 by omega) hfb.1 (by omega:(0:Int)≤20)
      omega⟩
     have hmc:f * w.off=w.off * f:=Int.mul_comm _ _
     rw [hg0,Int.add_zero] at r13
     rw [et]
     have hsp:=@Nat.succ_ne_zero;repeat' (first|simp (disch:=first|exact dqb|fail) only [go_sem,↓reduceIte,hsp,r12,r13,r14,q2,q3,q7,u0,gw,hmc]|refine WP_drw ?_|refine cnd_intro (fun hsp=>?_) fun hsp=>?_)
     exact fin_pl rfl rfl xh
   ·rintro fr H hAg ⟨r12,rfl,o,f,r13,r14,hj⟩
    have q2:=hAg 2 rfl
    have q3:=hAg 3 rfl
    have q7:=hAg 7 rfl
    try simp (disch:=first|exact dqb|fail) only [go_sem,↓reduceIte] at q2 q3 q7
    have hog:=hj.k.g
    have hfb:=hj.k.f
    have hol:=hj.k.n
    obtain ⟨u,eu⟩:∃ u,u=R.L.toNat:=⟨_,rfl⟩
    rw [← eu] at r12 r13 hj hol
    by_cases y0:(o.length:Int)<w.lg
    ·have u0:(w.lg-(o.length:Int) > 0)=True:=eq_true (by omega)
     have u1:((u:Int) ≥ R.L)=True:=eq_true (by omega)
     have et:tknW R w x true=(0,0,false):=by
      have hun:=hj.un
      rw [show R.L.toNat-u=0 by omega,unL] at hun
      unfold tknW
      rw [if_pos rfl,if_neg]
      unfold okT
      rw [← hun,decide_eq_false (by simp only;omega)];simp
     rw [et]
     have hsp:=@Nat.succ_ne_zero;repeat' (first|simp (disch:=first|exact dqb|fail) only [go_sem,↓reduceIte,hsp,r12,r13,r14,q2,q3,q7,u0,g01,u1]|refine WP_drw ?_|refine cnd_intro (fun hsp=>?_) fun hsp=>?_)
     exact fin_pl rfl rfl xh
    ·have u0:(w.lg-(o.length:Int) > 0)=False:=eq_false (by omega)
     have hlg:(o.length:Int)=w.lg:=by omega
     have hen:=hj.en hlg
     have hun:=hj.un
     have hno:¬ (o.getD (o.length-1) 0<(u:Int)-1):=by omega
     have hg0:gpI o u=0:=by unfold gpI gapB;rw [decide_eq_false hno,Bool.and_false,if_neg (by simp)]
     have huo:uniP R w x true=(o,f):=by
      rw [← hun]
      by_cases c:u<R.L.toNat
      ·rw [unL_at c,if_neg (by omega)]
      ·rw [show R.L.toNat-u=0 by omega,unL]
     have hxu:x<u:=by have:=hj.k.n;omega
     have hok:okT R w x true=true:=by unfold okT;rw [hj.hd hxu,huo,decide_eq_true hlg];rfl
     have et:tknW R w x true=((u:Int),max 0 (w.pr-w.off * f),decide (f≤w.jn)):=by
      unfold tknW;rw [if_pos rfl,if_pos hok,huo];simp only;rw [hen];congr 1;omega
     have hfb:=hj.k.f
     have hol:=hj.k.n
     have hmul:0≤w.off * f∧w.off * f≤1200:=⟨Int.mul_nonneg hof.1 hfb.1,by
      have:=Int.mul_le_mul hof.2 (show f≤60 by omega) hfb.1 (by omega:(0:Int)≤20)
      omega⟩
     have hmc:f * w.off=w.off * f:=Int.mul_comm _ _
     rw [hg0,Int.add_zero] at r13
     rw [et]
     have hsp:=@Nat.succ_ne_zero;repeat' (first|simp (disch:=first|exact dqb|fail) only [go_sem,↓reduceIte,hsp,r12,r13,r14,q2,q3,q7,u0,gw,hmc]|refine WP_drw ?_|refine cnd_intro (fun hsp=>?_) fun hsp=>?_)
     exact fin_pl rfl rfl xh
 ·have e0:tknR R ⟨cw,cf,cj⟩=(0,0,false):=by unfold tknR;rw [if_neg ct]
  rw [e0]
  by_cases y1:cw<0
  ·have t1:(cw<0)=True:=eq_true y1
   have hsp:=@Nat.succ_ne_zero;repeat' (first|simp (disch:=first|exact dqb|fail) only [go_sem,↓reduceIte,hsp,← eG0,g0,g1,hn,t1]|refine WP_drw ?_|refine cnd_intro (fun hsp=>?_) fun hsp=>?_)
   exact fin_pl rfl rfl x0
  ·have t1:(cw<0)=False:=eq_false y1
   by_cases y2:cw ≥ (R.W.length:Int)
   ·have t2:(cw ≥ (R.W.length:Int))=True:=eq_true y2
    have hsp:=@Nat.succ_ne_zero;repeat' (first|simp (disch:=first|exact dqb|fail) only [go_sem,↓reduceIte,hsp,← eG0,g0,g1,hn,t1,t2]|refine WP_drw ?_|refine cnd_intro (fun hsp=>?_) fun hsp=>?_)
    exact fin_pl rfl rfl x0
   ·have t2:(cw ≥ (R.W.length:Int))=False:=eq_false y2
    by_cases y3:cf<0
    ·have t3:(cf<0)=True:=eq_true y3
     have hsp:=@Nat.succ_ne_zero;repeat' (first|simp (disch:=first|exact dqb|fail) only [go_sem,↓reduceIte,hsp,← eG0,g0,g1,hn,t1,t2,t3]|refine WP_drw ?_|refine cnd_intro (fun hsp=>?_) fun hsp=>?_)
     exact fin_pl rfl rfl x0
    ·have t3:(cf<0)=False:=eq_false y3
     have t4:(cf ≥ R.L)=True:=eq_true (by omega)
     have hsp:=@Nat.succ_ne_zero;repeat' (first|simp (disch:=first|exact dqb|fail) only [go_sem,↓reduceIte,hsp,← eG0,g0,g1,hn,t1,t2,t3,t4]|refine WP_drw ?_|refine cnd_intro (fun hsp=>?_) fun hsp=>?_)
     exact fin_pl rfl rfl x0
end Go.AM
namespace Go.AM
open Go.Proofs.Tryz
attribute [-go_sem] put_ne put_same
attribute [local go_sem ↓] put_if
theorem pln_step {R:Rib} (hR:RibOk R) {c:Ct} {l:List Ct} {a s:Int} :
  ((tknR R c).2.2=true→c.f ≥ a→plnL R (c :: l) a s=plnL R l (tknR R c).1 (s+(tknR R c).2.1)∧(0≤(tknR R c).2.1∧(tknR R c).2.1≤100)∧0≤(tknR R c).1∧(tknR R c).1≤R.L∧(tknR R c).1 > c.f) ∧
  (((tknR R c).2.2=false ∨ c.f<a)→(plnL R (c :: l) a s).2 ≠ 0):=by
 rw [plnL]
 unfold tknR
 by_cases ct:(0≤c.w∧c.w≤(R.W.length:Int)-1)∧(0≤c.f∧c.f≤R.L-1)
 ·rw [if_pos ct,if_neg (fun q=>q ct)]
  have hw:R.W[c.w.toNat]?=some (R.W[c.w.toNat]'(by omega)):=List.getElem?_eq_getElem (by omega)
  generalize R.W[c.w.toNat]'(by omega)=w at hw
  have hx:c.f.toNat<R.L.toNat:=by omega
  have hwo:=hR.W w (List.mem_of_getElem? hw)
  have ht:=tknW_is (j:=c.j) hwo hx
  have etc:takC R c=takL R w c.f.toNat c.j:=by unfold takC;rw [hw]
  rw [hw,etc]
  simp only
  obtain ⟨r,er⟩:∃ r,r=tknW R w c.f.toNat c.j:=⟨_,rfl⟩
  rw [← er] at ht ⊢
  obtain ⟨e,p,ok⟩:=r
  simp only at ht ⊢
  cases ok with
  | true =>
   rw [if_pos rfl] at ht
   have hb:=takL_b hR hwo hx ht
   rw [ht]
   simp only
   constructor
   ·intro _ h2
    rw [if_neg (by omega)]
    exact ⟨rfl,⟨hb.2.2.1,hb.2.2.2.1⟩,by omega,by omega,by omega⟩
   ·rintro (q|q)
    ·simp at q
    ·rw [if_pos q];simp
  | false =>
   rw [if_neg (by simp)] at ht
   rw [ht]
   exact ⟨fun q=>by simp at q,fun _=>by simp⟩
 ·rw [if_neg ct,if_pos ct]
  exact ⟨fun q=>by simp at q,fun _=>by simp⟩
set_option maxRecDepth 100000 in
set_option maxHeartbeats 4000000 in
theorem run_learned {base:Nat} {h:Heap} {v pv:AVal} {R:Rib} {p:List Ct} (hA:RibAt h v R) (hR:RibOk R) (hP:Rows encC h pv p) :
  callL prog raw base (.fn 12 [] []) [v,pv] h=some (.tuple [.int .i64 (plnL R p 0 0).1,.bool (decide ((plnL R p 0 0).2=0))],h):=by
 have hAe:=fun H (e:Ext h H)=>hA.ext e
 obtain ⟨fv,wv,rfl,hF,hW⟩:=hA
 have o1:=hF.one
 have o2:=hW.one
 have op:=hP.one
 have hL:=hR.L
 have hpl:=hP.1
 obtain ⟨G0,eG0⟩:∃ G0,G0=h++[ribB R.L fv wv]:=⟨_,rfl⟩
 have x0:Ext h G0:=by rw [eG0];exact .app .refl
 have g0:G0[h.length]?=some (ribB R.L fv wv):=by rw [eG0];exact get_eq rfl
 have l0:G0.length=h.length+1:=by rw [eG0];simp
 have hn:=(hP.ext x0).len (P:=prog) Fc.el51
 unfold ribB at eG0 g0
 obtain ⟨Z,eZ⟩:∃ Z,Z=plnL R p 0 0:=⟨_,rfl⟩
 rw [← eZ]
 refine callL_run func12 rfl rfl ?_
 have hsp:=@Nat.succ_ne_zero;repeat' (first|simp (disch:=first|exact dqb|fail) only [go_sem,↓reduceIte,hsp,← eG0,hn]|refine WP_drw ?_|refine cnd_intro (fun hsp=>?_) fun hsp=>?_)
 refine WP_count [(4,12),(15,38)] 0 p.length (Nat.zero_le _) (fun _ i fr H=>fr 15=.int .i64 (i:Int)∧Ext G0 H∧∃ a s:Int,fr 6=.int .i64 a∧fr 7=.int .i64 s∧plnL R (p.drop i) a s=Z∧(0≤a∧a≤R.L)∧(0≤s∧s≤100 * a)) ?_ ?_ ?_
 ·exact ⟨by (simp (disch:=first|exact dqb|fail) only [go_sem,↓reduceIte,Int.natCast_zero];first|done|rfl),.refl,0,0,by simp (disch:=first|exact dqb|fail) only [go_sem,↓reduceIte],by simp (disch:=first|exact dqb|fail) only [go_sem,↓reduceIte],by rw [List.drop_zero,eZ],by omega,by omega⟩
 ·rintro i fr H hi0 hi hAg ⟨r15,xH,a,s,r6,r7,hpn,ha,hs⟩
  have q2:=hAg 2 rfl
  have q13:=hAg 13 rfl
  have q14:=hAg 14 rfl
  try simp (disch:=first|exact dqb|fail) only [go_sem,↓reduceIte] at q2 q13 q14
  have hlt:((i:Int)<(p.length:Int))=True:=eq_true (by omega)
  obtain ⟨c,ec⟩:∃ c,c=p[i]:=⟨_,rfl⟩
  have hx:p[i]?=some c:=by rw [ec];exact List.getElem?_eq_getElem hi
  rw [List.drop_eq_getElem_cons hi,← ec] at hpn
  have xh:=x0.trans xH
  have iP:=hP.ext xh
  have a1:=ct_ad iP hi
  have b1:=ct_ld iP hx
  have g0H:=xH.get g0
  obtain ⟨H2,eH2⟩:∃ H2,H2=H++[cutB c]:=⟨_,rfl⟩
  have x2:Ext H H2:=by rw [eH2];exact .app .refl
  have gc:H2[H.length]?=some (cutB c):=by rw [eH2];exact get_eq rfl
  have g02:=x2.get g0H
  have lH:=xH.len
  have ht:=fun base=>run_taken (base:=base) (c:=c) (hAe H2 (xh.trans x2)) hR
  obtain ⟨s1,s2⟩:=pln_step hR (c:=c) (l:=p.drop (i+1)) (a:=a) (s:=s)
  rw [hpn] at s1 s2
  obtain ⟨r,er⟩:∃ r,r=tknR R c:=⟨_,rfl⟩
  rw [← er] at ht s1 s2
  obtain ⟨e,q0,ok⟩:=r
  simp only at ht s1 s2
  unfold cutB at eH2 gc
  have hbad:Z.2 ≠ 0→Z=(0,Z.2):=fun q=>by
   rcases plnL_pos hR p 0 0 with z|z
   ·rw [← eZ] at z;exact absurd z q
   ·rw [← eZ] at z;rw [← z]
  cases ok with
  | false =>
   have hz:=s2 (.inl rfl)
   rw [hbad hz]
   simp only
   rw [decide_eq_false hz]
   have hsp:=@Nat.succ_ne_zero;repeat' (first|simp (disch:=first|exact dqb|fail) only [go_sem,↓reduceIte,hsp,r15,r6,r7,q2,q13,q14,hlt,a1,b1,← eH2,gc,g02,ht,Bool.not_false]|refine WP_drw ?_|refine cnd_intro (fun hsp=>?_) fun hsp=>?_)
   exact fin_pl rfl rfl (xh.trans x2)
  | true =>
   by_cases c3:c.f<a
   ·have t3:(c.f<a)=True:=eq_true c3
    have hz:=s2 (.inr c3)
    rw [hbad hz]
    simp only
    rw [decide_eq_false hz]
    have hsp:=@Nat.succ_ne_zero;repeat' (first|simp (disch:=first|exact dqb|fail) only [go_sem,↓reduceIte,hsp,r15,r6,r7,q2,q13,q14,hlt,a1,b1,← eH2,gc,g02,ht,Bool.not_true,t3]|refine WP_drw ?_|refine cnd_intro (fun hsp=>?_) fun hsp=>?_)
    exact fin_pl rfl rfl (xh.trans x2)
   ·have t3:(c.f<a)=False:=eq_false c3
    obtain ⟨z1,z2,z3,z4,z5⟩:=s1 rfl (by omega)
    have hsp:=@Nat.succ_ne_zero;repeat' (first|simp (disch:=first|exact dqb|fail) only [go_sem,↓reduceIte,hsp,r15,r6,r7,q2,q13,q14,hlt,a1,b1,← eH2,gc,g02,ht,Bool.not_true,t3]|refine WP_drw ?_|refine cnd_intro (fun hsp=>?_) fun hsp=>?_)
    exact ⟨agq,by omega,xH.trans x2,e,s+q0,rfl,rfl,z1.symm,by omega,by omega⟩
 ·rintro fr H hAg ⟨r15,xH,a,s,r6,r7,hpn,ha,hs⟩
  have q2:=hAg 2 rfl
  have q13:=hAg 13 rfl
  have q14:=hAg 14 rfl
  try simp (disch:=first|exact dqb|fail) only [go_sem,↓reduceIte] at q2 q13 q14
  have hlt:((p.length:Int)<(p.length:Int))=False:=eq_false (by omega)
  rw [List.drop_length,plnL] at hpn
  rw [← hpn]
  simp only
  rw [decide_eq_true rfl]
  have hsp:=@Nat.succ_ne_zero;repeat' (first|simp (disch:=first|exact dqb|fail) only [go_sem,↓reduceIte,hsp,r15,r6,r7,q2,q13,q14,hlt]|refine WP_drw ?_|refine cnd_intro (fun hsp=>?_) fun hsp=>?_)
  exact fin_pl rfl rfl (x0.trans xH)
end Go.AM
namespace Go.AM
open Go.Proofs.Tryz
attribute [-go_sem] put_ne put_same
attribute [local go_sem ↓] put_if
end Go.AM
namespace Go.AM
open Go.Proofs.Tryz
attribute [-go_sem] put_ne put_same
attribute [local go_sem ↓] put_if
def turR (R:Rib) (u:Int):Rib:=⟨R.L,turF R u,R.W⟩
def turN (R:Rib) (u:Int) (n:Nat):List Int:=(upto n).filter fun y=>decide (y ∈ R.F) != decide (y=u)
end Go.AM
namespace Go.AM
open Go.Proofs.Tryz
attribute [-go_sem] put_ne put_same
attribute [local go_sem ↓] put_if
end Go.AM
namespace Go.AM
open Go.Proofs.Tryz Go.RowKit Go.ChangeShapes Go.WideShapes Go.ChangeAt
open Go.Proofs.YtikgghhceolaeaaGreat (Rows.uptoSmall Rows.uptoBulkAll Rows.uptoBulk)
set_option maxRecDepth 100000
def IntW (_:Heap) (v:AVal):Prop:=∃ n:Int,v=.int .i64 n∧-9223372036854775808≤n∧n<9223372036854775808
end Go.AM
namespace Go.AM
open Go.Proofs.Tryz
attribute [-go_sem] put_ne put_same
attribute [local go_sem ↓] put_if
end Go.AM
namespace Go.AM
open Go.Proofs.Tryz
attribute [-go_sem] put_ne put_same
attribute [local go_sem ↓] put_if
end Go.AM
namespace Go.AM
open Go.Proofs.Tryz
attribute [-go_sem] put_ne put_same
attribute [local go_sem ↓] put_if
def upd (f:Nat→Int) (i:Nat) (n:Int):Nat→Int:=fun k=>if k=i then n else f k
def dfl:Nat→Int:=fun k=>[10,3,4,10,3,1,2,0,1,4,1,0,6,17,10].getD k 0
def intB1 (a:Int):ABlk:=⟨.cells [.int .i64 a] 3 false false,0⟩
structure TnA (H:Heap) (f:Nat→Int) (j:Bool) (F W N:Nat):Prop where
 gR:H[N]?=some (ribB (f 0) (.slice (some ⟨F,0,0⟩) 2 2) (.slice (some ⟨W,0,0⟩) 2 2))
 gF:H[F]?=some (rowB [f 1,5] 0)
 gW:H[W]?=some (rowE encW 50 [⟨f 2,f 3,f 4,f 5,1⟩,⟨3,6,1,0,f 6⟩] 0)
 gC:H[N+1]?=some (cutB ⟨f 7,f 8,j⟩)
 gX:H[N+2]?=some (intB1 (f 9))
 gY:H[N+3]?=some (intB1 (f 10))
 gP:H[N+4]?=some (rowE encC 57 [⟨0,0,true⟩,⟨f 11,f 12,false⟩] 0)
 gV:H[N+5]?=some (rowB [f 13,17,16,14,12,10,f 14,6,0,0,0] 0)
 lo:F<W∧W<N
def tgt (F W N:Nat):Nat→ARef
 | 0=>⟨N,0,0⟩|1=>⟨F,0,0⟩|2=>⟨W,0,0⟩|3=>⟨W,0,1⟩|4=>⟨W,0,2⟩|5=>⟨W,0,3⟩|6=>⟨W,0,9⟩|7=>⟨N+1,0,0⟩
 | 8=>⟨N+1,0,1⟩|9=>⟨N+2,0,0⟩|10=>⟨N+3,0,0⟩|11=>⟨N+4,0,3⟩|12=>⟨N+4,0,4⟩|13=>⟨N+5,0,0⟩|_=>⟨N+5,0,6⟩
def rng63 (n:Int):Prop:=-9223372036854775808≤n∧n<9223372036854775808
end Go.AM
namespace Go.AM
open Go.Proofs.Tryz
def limL:List (List Int):=[[0,1,6,9,10,11,60,61],[-1,0,2,4,5,6,10],[0,1,3,5,60,61],[-1,0,9,11,100,101],[-1,0,1,20,21],[-1,0,2,4,5],[-1,0,2,4,5],[-1,0,1,2],[-1,0,2,9,10],[-1,0,3,5,9,10],[-1,0,1,2],[-1,0,1,2],[-1,0,4,5,6,9,10],[-10001,-10000,16,17,18,10000,10001],[-1,0,9,10,11]]
def limC (n:Nat):List AVal:=[.slice (some ⟨n,0,0⟩) 8 8,.slice (some ⟨n+1,0,0⟩) 7 7,.slice (some ⟨n+2,0,0⟩) 6 6,.slice (some ⟨n+3,0,0⟩) 6 6,.slice (some ⟨n+4,0,0⟩) 5 5,.slice (some ⟨n+5,0,0⟩) 5 5,.slice (some ⟨n+6,0,0⟩) 5 5,.slice (some ⟨n+7,0,0⟩) 4 4,.slice (some ⟨n+8,0,0⟩) 5 5,.slice (some ⟨n+9,0,0⟩) 6 6,.slice (some ⟨n+10,0,0⟩) 4 4,.slice (some ⟨n+11,0,0⟩) 4 4,.slice (some ⟨n+12,0,0⟩) 7 7,.slice (some ⟨n+13,0,0⟩) 7 7,.slice (some ⟨n+14,0,0⟩) 5 5]
theorem bst_f {R:Rib} {c:Ct} (h:c ∈ bstE false R):0≤c.f∧c.f≤60:=by
 unfold bstE at h
 split at h
 ·cases h
 ·rename_i hc
  have hR:=chkR_iff.1 (Classical.not_not.1 hc)
  have hL:=hR.L
  obtain ⟨y,e,hy,hm⟩:=pthL_mem hR R.L.toNat 0 (by omega) (by omega) c h
  have:=(cutL_b hR hy hm).2.1
  simp only at this
  omega
theorem bst_len {R:Rib}:(bstE false R).length≤60:=by
 unfold bstE
 split
 ·simp
 ·rename_i hc
  have hR:=chkR_iff.1 (Classical.not_not.1 hc)
  have:=(pthL_ok (b:=false) hR R.L.toNat 0 0 0 (by omega) (by omega) (by omega)).2
  have:=folD_bd (b:=false) (x:=0) hR
  omega
theorem bsWW1 {lit:Bool} {H:Heap} {w:Wnt}:bsA prog lit H 33 1 [(0,.agg [.int .i64 w.lg,.int .i64 w.pr,.int .i64 w.off,.int .i64 w.fl,.int .i64 w.jn])]=some (.slice (some ⟨H.length,0,0⟩) 1 1,H++[rowE encW 50 [w] 0]):=by
 simp [bsA,rowOf,Fc.el33,fillA,repCells,AVal.isN,AVal.cells,splice,rowE,flat,encW]
theorem snocWW {b base:Nat} {A:Heap} {w:AVal} {l:List Wnt} {r:Wnt} (hO:Own encW 50 b A w l) (hb:base≤b) (hbh:b≤A.length) (hl:l.length≤1000000) :
  ∃ w' H,appendA prog base (A++[rowE encW 50 [r] 0]) 33 w (.slice (some ⟨A.length,0,0⟩) 1 1)=some (w',H)∧Own encW 50 b H w' (l++[r])∧A.length≤H.length∧(∀ G,G.length≤b→Ext G A→Ext G H)∧One w'∧KeepO encW 50 A H:=by
 obtain ⟨B,eB⟩:∃ B,B=A++[rowE encW 50 [r] 0]:=⟨_,rfl⟩
 have xB:Ext A B:=by rw [eB];exact .app .refl
 have lB':B.length=A.length+1:=by rw [eB];simp
 have hx:Rows encW B (.slice (some ⟨A.length,0,0⟩) 1 1) [r]:=Rows.own (by rw [eB];exact get_eq rfl) rfl (by simp)
 rw [← eB]
 obtain ⟨w',H,a1,a2,a3,a4,a5,a6⟩:=(hO.ext xB).appendRX (P:=prog) (base:=base) (t:=33) hx Fc.el33 encW_sc hb (by omega) (by simp) (by simp;omega)
 have a6:KeepO encW 50 B H:=a6
 exact ⟨w',H,a1,a2,by omega,fun G h1 h2=>a4 G h1 (h2.trans xB),a5,fun i y hi hy=>a6 i y (xB.get hi) hy⟩
def ribRow (a b:Int × AVal × AVal):ABlk:=⟨.cells [.int .i64 a.1,a.2.1,a.2.2,.int .i64 b.1,b.2.1,b.2.2] 35 true false,0⟩
def tstRow (a b:Bool):ABlk:=⟨.cells [.bool a,.bool b] 4 true false,0⟩
def fltL (n:Nat):List Int:=(List.range n).map fun (i:Nat)=>4 * (i:Int)
def wtsL (n:Nat):List Wnt:=(List.range n).map fun (i:Nat)=>⟨1+((i % 4:Nat):Int),(i:Int),0,((i % 2:Nat):Int),0⟩
end Go.AM
namespace Go.AM
open Go.Proofs.Tryz
attribute [-go_sem] put_ne put_same
attribute [local go_sem ↓] put_if
namespace Flt
theorem cvtN' {x:Int} (hx:0≤x∧x≤255):convA prog 3 5 (.int .u8 x)=some (.int .i64 x):=by
 have h:convA prog 3 5 (.int .u8 x)=some (.int .i64 (IntKind.i64.wrap x)):=by kernel_rfl
 rw [h,wrap64 (by omega) (by omega)]
theorem run_isIn {base a b:Nat} {h:Heap} {c:Ct} {e u:Int} (ga:h[a]?=some (cutB c)) (gb:h[b]?=some (intW1 e)) :
  callL prog raw base (.fn 15 [] [.ptr (some ⟨a,0,0⟩),.ptr (some ⟨b,0,0⟩)]) [.int .i64 u] h=some (.bool (decide (c.f≤u∧u<e)),h):=by
 have la:=lt_of_get ga
 have lb:=lt_of_get gb
 unfold cutB at ga
 unfold intW1 at gb
 by_cases c1:u ≥ c.f
 ·have t1:(u ≥ c.f)=True:=eq_true c1
  by_cases c2:u<e
  ·have t2:(u<e)=True:=eq_true c2
   rw [decide_eq_true (show c.f≤u∧u<e from ⟨c1,c2⟩)]
   refine callL_run func15 rfl rfl ?_
   have hsp:=@Nat.succ_ne_zero;repeat' (first|simp (disch:=first|exact dqb|fail) only [go_sem,↓reduceIte,hsp,ga,gb,t1,t2]|refine WP_drw ?_|refine cnd_intro (fun hsp=>?_) fun hsp=>?_)
   exact fB rfl
  ·have t2:(u<e)=False:=eq_false c2
   rw [decide_eq_false (fun q:c.f≤u∧u<e=>c2 q.2)]
   refine callL_run func15 rfl rfl ?_
   have hsp:=@Nat.succ_ne_zero;repeat' (first|simp (disch:=first|exact dqb|fail) only [go_sem,↓reduceIte,hsp,ga,gb,t1,t2]|refine WP_drw ?_|refine cnd_intro (fun hsp=>?_) fun hsp=>?_)
   exact fB rfl
 ·have t1:(u ≥ c.f)=False:=eq_false c1
  rw [decide_eq_false (fun q:c.f≤u∧u<e=>c1 q.1)]
  refine callL_run func15 rfl rfl ?_
  have hsp:=@Nat.succ_ne_zero;repeat' (first|simp (disch:=first|exact dqb|fail) only [go_sem,↓reduceIte,hsp,ga,gb,t1]|refine WP_drw ?_|refine cnd_intro (fun hsp=>?_) fun hsp=>?_)
  exact fB rfl
theorem plan_clean {R:Rib} {P:List Ct} (hR:RibOk R) (h0:∀ w ∈ R.W,w.fl=0∧w.jn=0) (hP:P=pthL false R R.L.toNat 0) {c:Ct} (hc:c ∈ P):(R.F.any fun u=>decide (c.f≤u∧u<(tknR R c).1))=false:=by
 subst hP
 have hL:=hR.L
 obtain ⟨y,e,hy,hm⟩:=pthL_mem hR R.L.toNat 0 (by omega) (by omega) c hc
 obtain ⟨k,w,j,hw,ht,hce⟩:=cutL_mem.1 hm
 have hk:=(List.getElem?_eq_some_iff.1 hw).1
 obtain ⟨e1,e2⟩:=e
 simp only at ht hce
 subst hce
 have hwm:=List.mem_of_getElem? hw
 have hcl:=takL_clean (hR.W w hwm) (h0 w hwm) ht
 have hti:=tknW_is (j:=j) (hR.W w hwm) hy
 rw [ht] at hti
 have h1:(tknR R ⟨(k:Int),(y:Int),j⟩).1=e1:=by
  unfold tknR
  simp only
  rw [if_pos ⟨by omega,by omega⟩,Int.toNat_natCast,hw,Int.toNat_natCast]
  simp only
  split at hti
  ·simp only [Option.some.injEq,Prod.mk.injEq] at hti
   exact hti.1.symm
  ·cases hti
 rw [h1]
 refine Bool.eq_false_iff.2 fun q=>?_
 obtain ⟨u,hu,hq⟩:=List.any_eq_true.1 q
 have hq:=of_decide_eq_true hq
 exact hcl.2.1 u hu hq
theorem lom_small {L:Lom} (hc:chkM L=0):∀ p ∈ L.ps,Small p.rib∧p.rib.length≤1000:=fun p hp=>by
 obtain ⟨k1,k2,k3,k4,k5,k6⟩:=chkM_ok hc
 obtain ⟨q1,q2,q3,q4,q5⟩:=k5 p hp
 have:=nodup_len (rise_pair q5) q4
 exact ⟨small_rise (R:=L.R) ⟨q1,q2,q3,q4,q5⟩ (by omega),by omega⟩
end Flt
end Go.AM
