/-
  Looms: what a break spoils (lines of wip/f4 E8).
-/
import Derived.Test.YtcemgempgbjbeaaGreatU16
import Derived.Test.YtcemgempgbjbeaaGreatU15
import Derived.Test.YtcemgempgbjbeaaGreatU11
import Derived.Test.YtcemgempgbjbeaaGreatU12
import Derived.Test.YtcemgempgbjbeaaGreatU13
import Derived.Test.YtcemgempgbjbeaaGreatU14
set_option linter.unusedSimpArgs false
set_option linter.unusedVariables false
namespace Go.AM
open Go.Proofs.Tryz
namespace Flt
theorem chkM_ok {L:Lom} (h:chkM L=0):(1≤L.R∧L.R≤6)∧(1≤L.T∧L.T≤12)∧(1≤L.ps.length∧L.ps.length≤6)∧L.ss.length≤10 ∧
  (∀ p ∈ L.ps,0<p.rib.length∧(1≤p.each∧p.each≤4)∧(0≤p.ph∧p.ph≤p.each-1)∧(∀ r ∈ p.rib,0≤r∧r≤L.R-1)∧riseB p.rib=true) ∧
  (∀ s ∈ L.ss,(0≤s.rib∧s.rib≤L.R-1)∧(0≤s.lo∧s.lo≤L.T-1)∧(0≤s.hi∧s.hi≤L.T-1)∧s.lo≤s.hi):=by
 unfold chkM at h
 split at h
 ·cases h
 ·rename_i h1
  split at h
  ·cases h
  ·rename_i h2
   split at h
   ·cases h
   ·rename_i h3
    split at h
    ·cases h
    ·rename_i h4
     simp only [not_or,Classical.not_not] at h1 h2 h3 h4
     obtain ⟨a1,a2,a3,a4,a5⟩:=h1
     refine ⟨a1,a2,by omega,by omega,fun p hp=>?_,fun s hs=>?_⟩
     ·have b1:=of_decide_eq_true (List.all_eq_true.1 a5 p hp)
      have b2:=of_decide_eq_true (List.all_eq_true.1 h2 p hp)
      have b3:=List.all_eq_true.1 (List.all_eq_true.1 h3.1 p hp)
      exact ⟨b1,b2.1,b2.2,fun r hr=>of_decide_eq_true (b3 r hr),List.all_eq_true.1 h4.1 p hp⟩
     ·have b1:=of_decide_eq_true (List.all_eq_true.1 h3.2 s hs)
      have b2:=of_decide_eq_true (List.all_eq_true.1 h4.2 s hs)
      exact ⟨b1.1,b1.2.1,b1.2.2,b2⟩
theorem brkM_ok {L:Lom} {b:Int × Int × Int} (h:brkM L b=0):(0≤b.1∧b.1<L.ps.length)∧(0≤b.2.1∧b.2.1≤L.T-1)∧(0≤b.2.2∧b.2.2≤L.T-1)∧b.2.1≤b.2.2:=by
 unfold brkM at h
 split at h
 ·cases h
 ·rename_i h1
  split at h
  ·cases h
  ·rename_i h2
   simp only [not_or,Classical.not_not] at h1 h2
   omega
def splM (L:Lom) (b:Int × Int × Int):List (Int × Int) × Int :=
 if chkM L ≠ 0 then ([],chkM L) else if brkM L b ≠ 0 then ([],brkM L b) else (spotsN (L.ps.getD b.1.toNat ⟨[],1,0,false⟩) b.2.1.toNat (b.2.2+1-b.2.1).toNat,0)
set_option maxHeartbeats 1000000 in
theorem run_spoils {base:Nat} {h:Heap} {v:AVal} {L:Lom} {b:Int × Int × Int} (hb:base≤h.length) (hL:LomAt h v L) (hsm:∀ p ∈ L.ps,Small p.rib) (hpl:L.ps.length≤1048576) (hsl:L.ss.length≤1048576) (hea:∀ p ∈ L.ps,p.each≤p.each) (hrl:∀ p ∈ L.ps,p.rib.length≤1000) :
  Ret prog raw base (.fn 17 [] []) [v,.agg (encB.cells b)] h (fun w H=>Ext h H∧∃ x,w=.tuple [x,.int .i64 (splM L b).2]∧Own encT 70 h.length H x (splM L b).1):=by
 have hc:∀ {base:Nat} {a c:ABlk},callL prog raw base (.fn 39 [] []) [v] (h++[a]++[c])=some (.int .i64 (chkM L),h++[a]++[c]):=fun {base a c}=>run_check (hL.ext (.app (.app .refl))) hsm hpl hsl hea
 obtain ⟨pv,sv,rfl,hP,hS⟩:=hL
 have ho:=hP.one
 have ho2:=hS.one
 by_cases c1:chkM L=0
 ·have t1:(chkM L=0)=True:=eq_true c1
  obtain ⟨k1,k2,k3,k4,k5,k6⟩:=chkM_ok c1
  have hk:∀ {base:Nat} {a c:ABlk},callL prog raw base (.fn 60 [] []) [lomV L.R L.T pv sv,.agg (encB.cells b)] (h++[a]++[c])=some (.int .i64 (brkM L b),h++[a]++[c]):=fun {base a c}=>run_broken (hP.ext (.app (.app .refl))) ho2 hpl (by omega)
  by_cases c2:brkM L b=0
  ·have t2:(brkM L b=0)=True:=eq_true c2
   obtain ⟨j1,j2,j3,j4⟩:=brkM_ok c2
   have hlt:b.1.toNat<L.ps.length:=by omega
   have hp:L.ps[b.1.toNat]?=some (L.ps.getD b.1.toNat ⟨[],1,0,false⟩):=by rw [List.getD_eq_getElem?_getD,List.getElem?_eq_getElem hlt];rfl
   have hmem:L.ps.getD b.1.toNat ⟨[],1,0,false⟩ ∈ L.ps:=List.mem_of_getElem? hp
   have r:splM L b=(spotsN (L.ps.getD b.1.toNat ⟨[],1,0,false⟩) b.2.1.toNat (b.2.2+1-b.2.1).toNat,0):=by unfold splM;rw [if_neg (by simp [c1]),if_neg (by simp [c2])]
   rw [r]
   obtain ⟨x,H,ex,hE,hO⟩:=run_spots (base:=base) (h:=h++[⟨.cells [.int .i64 L.R,.int .i64 L.T,pv,sv] 62 false false,0⟩]++[⟨.cells [.int .i64 b.1,.int .i64 b.2.1,.int .i64 b.2.2] 67 false false,0⟩]) (L:=L) (pv:=pv) (sv:=sv) (b:=b) (k:=b.1.toNat) (by simp;omega) (hP.ext (.app (.app .refl))) ho2 hp (by omega) (by omega) (by omega) (by omega) (by have:=k5 _ hmem;omega) (hrl _ hmem)
   rw [c2] at hk
   simp only [encB] at hk ex ⊢
   refine ret_raw func17 rfl (by kernel_rfl) ?_
   have hsp:=@Nat.succ_ne_zero;repeat' (first|simp (disch:=first|exact dqb|fail) only [go_sem,hsp,hc,c1,hk,ex,eq_self]|refine WP_drw ?_|refine cnd_intro (fun hsp=>?_) fun hsp=>?_)
   exact ⟨Ext.trans (.app (.app .refl)) hE,x,rfl,hO.low (by simp only [List.length_append,List.length_cons,List.length_nil];omega)⟩
  ·have t2:(brkM L b=0)=False:=eq_false c2
   have r:splM L b=([],brkM L b):=by unfold splM;rw [if_neg (by simp [c1]),if_pos c2]
   rw [r]
   simp only [encB] at hk ⊢
   refine ret_raw func17 rfl (by kernel_rfl) ?_
   have hsp:=@Nat.succ_ne_zero;repeat' (first|simp (disch:=first|exact dqb|fail) only [go_sem,hsp,hc,c1,hk,t2,eq_self]|refine WP_drw ?_|refine cnd_intro (fun hsp=>?_) fun hsp=>?_)
   exact ⟨.app (.app .refl),_,rfl,Own.nil⟩
 ·have t1:(chkM L=0)=False:=eq_false c1
  have r:splM L b=([],chkM L):=by unfold splM;rw [if_pos c1]
  rw [r]
  simp only [encB]
  refine ret_raw func17 rfl (by kernel_rfl) ?_
  have hsp:=@Nat.succ_ne_zero;repeat' (first|simp (disch:=first|exact dqb|fail) only [go_sem,hsp,hc,t1]|refine WP_drw ?_|refine cnd_intro (fun hsp=>?_) fun hsp=>?_)
  exact ⟨.app (.app .refl),_,rfl,Own.nil⟩
end Flt
end Go.AM
namespace Go.AM
theorem unL_mono {bad:Nat→Bool} {j:Bool} {lg:Int}:∀ (n u:Nat) (o:List Int) (f:Int),f≤(unL bad j lg n u o f).2
 | 0,_,_,_=>Int.le_refl _
 | n+1,u,o,f=>by
  unfold unL
  split
  ·refine Int.le_trans ?_ (unL_mono n _ _ _)
   unfold unS
   split
   ·exact Int.le_refl _
   ·simp only
    split<;>omega
  ·exact Int.le_refl _
theorem gapB_iff {o:List Int} {u:Nat}:gapB o u=true ↔ 0<o.length∧o.getD (o.length-1) 0<(u:Int)-1:=by
 unfold gapB
 rw [Bool.and_eq_true,decide_eq_true_eq,decide_eq_true_eq]
theorem unL_gap {bad:Nat→Bool} {lg:Int}:∀ (n u:Nat) (o:List Int) (f:Int),gapB o u=true→(o.length:Int)<lg→(unL bad true lg n u o f).1=o ∨ f+1≤(unL bad true lg n u o f).2
 | 0,_,_,_,_,_=>.inl rfl
 | n+1,u,o,f,hg,hl=>by
  unfold unL
  rw [if_pos hl]
  by_cases b:bad u=true
  ·have e:unS bad true u o f=(o,f):=by unfold unS;rw [if_pos (by rw [b];rfl)]
   rw [e]
   refine unL_gap n (u+1) o f (gapB_iff.2 ?_) hl
   have:=gapB_iff.1 hg
   exact ⟨this.1,by omega⟩
  ·have b:bad u=false:=Bool.eq_false_iff.2 b
   have e:unS bad true u o f=(o++[(u:Int)],f+1):=by
    unfold unS
    rw [if_neg (by rw [b];decide),if_pos (by rw [hg];rfl)]
   rw [e]
   exact .inr (unL_mono n _ _ _)
theorem unL_clean {bad:Nat→Bool} {j:Bool} {lg:Int}:∀ (n u:Nat) (o:List Int),(j=true→o=[]→bad u=false)→(0<o.length→o.getD (o.length-1) 0=(u:Int)-1) →
  (unL bad j lg n u o 0).2≤0→((unL bad j lg n u o 0).1.length:Int)=lg →
  (∀ bad':Nat→Bool,(∀ y,bad' y=true→bad y=true)→unL bad' j lg n u o 0=unL bad j lg n u o 0) ∧
  (∀ y:Nat,u≤y→(y:Int)<u+(lg-o.length)→bad y=false) ∧
  (0<(unL bad j lg n u o 0).1.length→(unL bad j lg n u o 0).1.getD ((unL bad j lg n u o 0).1.length-1) 0+1=u+(lg-o.length))
 | 0,u,o,_,h2,_,h4=>by
  have h4:(o.length:Int)=lg:=h4
  refine ⟨fun _ _=>rfl,fun y h5 h6=>by omega,fun h5=>?_⟩
  have h5:0<o.length:=h5
  have:=h2 h5
  show o.getD (o.length-1) 0+1=_
  omega
 | n+1,u,o,h1,h2,h3,h4=>by
  by_cases c:(o.length:Int)<lg
  ·have e:∀ b:Nat→Bool,unL b j lg (n+1) u o 0=unL b j lg n (u+1) (unS b j u o 0).1 (unS b j u o 0).2:=fun b=>by rw [unL,if_pos c]
   by_cases b:bad u=true
   ·exfalso
    cases j with
    | false =>
     have e1:unS bad false u o 0=(o++[(u:Int)],1):=by
      unfold unS
      rw [if_neg (by simp),if_pos (by rw [b];rfl)];rfl
     rw [e,e1] at h3
     have:=unL_mono (bad:=bad) (j:=false) (lg:=lg) n (u+1) (o++[(u:Int)]) 1
     simp only at h3
     omega
    | true =>
     have ho:o ≠ []:=fun q=>by have:=h1 rfl q;rw [this] at b;cases b
     have ho:=List.length_pos_iff.2 ho
     have e1:unS bad true u o 0=(o,0):=by unfold unS;rw [if_pos (by rw [b];rfl)]
     rw [e,e1] at h3 h4
     have hg:gapB o (u+1)=true:=gapB_iff.2 ⟨ho,by have:=h2 ho;omega⟩
     rcases unL_gap (bad:=bad) (lg:=lg) n (u+1) o 0 hg c with q|q
     ·simp only at h4
      rw [q] at h4;omega
     ·simp only at h3
      omega
   ·have b:bad u=false:=Bool.eq_false_iff.2 b
    have hg:gapB o u=false:=Bool.eq_false_iff.2 fun q=>by
     have q:=gapB_iff.1 q
     have:=h2 q.1
     omega
    have e1:∀ b':Nat→Bool,b' u=false→unS b' j u o 0=(o++[(u:Int)],0):=fun b' hb=>by
     unfold unS
     rw [hb,hg,Bool.and_false,if_neg (by decide),if_neg (by decide)]
    rw [e,e1 bad b] at h3 h4 ⊢
    simp only at h3 h4 ⊢
    obtain ⟨i1,i2,i3⟩:=unL_clean n (u+1) (o++[(u:Int)]) (fun _ q=>by simp at q) (fun _=>by
     rw [List.length_append,List.length_cons,List.length_nil,List.getD_eq_getElem?_getD]
     simp) h3 h4
    have hl:((o++[(u:Int)]).length:Int)=o.length+1:=by simp
    rw [hl] at i2 i3
    refine ⟨fun bad' hb=>?_,fun y h5 h6=>?_,fun h5=>?_⟩
    ·have b':bad' u=false:=Bool.eq_false_iff.2 fun q=>by rw [hb u q] at b;cases b
     rw [e,e1 bad' b']
     exact i1 bad' hb
    ·by_cases d:y=u
     ·rw [d];exact b
     ·exact i2 y (by omega) (by omega)
    ·have:=i3 h5
     omega
  ·have e:∀ b:Nat→Bool,unL b j lg (n+1) u o 0=(o,0):=fun b=>by rw [unL,if_neg c]
   rw [e] at h4 ⊢
   simp only at h4 ⊢
   refine ⟨fun bad' _=>e bad',fun y h5 h6=>by omega,fun h5=>?_⟩
   have:=h2 h5
   omega
theorem takL_clean {R:Rib} {w:Wnt} {x:Nat} {j:Bool} {e p:Int} (hw:WntOk w) (h0:w.fl=0∧w.jn=0) (ht:takL R w x j=some (e,p)) :
  e=(x:Int)+w.lg∧(∀ u ∈ R.F,¬ ((x:Int)≤u∧u<e))∧∀ F':List Int,(∀ u ∈ F',u ∈ R.F)→takL ⟨R.L,F',R.W⟩ w x j=some (e,p):=by
 unfold takL at ht
 split at ht
 ·rename_i c
  obtain ⟨c1,c2⟩:=c
  have hl:limW w j=0:=by unfold limW;split<;>omega
  rw [hl] at c2
  unfold okT at c1
  rw [Bool.and_eq_true,decide_eq_true_eq,Bool.not_eq_true',Bool.and_eq_false_iff] at c1
  obtain ⟨c0,c1⟩:=c1
  have hlg:=hw.lg
  obtain ⟨k1,k2,k3⟩:=unL_clean (bad:=badF R) (j:=j) (lg:=w.lg) (R.L.toNat-x) x [] (fun q _=>by
   rcases c0 with c0|c0
   ·rw [q] at c0;cases c0
   ·exact c0) (fun q=>by simp at q) c2 c1
  simp only [List.length_nil] at k2 k3
  have c1':((unL (badF R) j w.lg (R.L.toNat-x) x [] 0).1.length:Int)=w.lg:=c1
  have k3:=k3 (by omega)
  simp only [Option.some.injEq,Prod.mk.injEq] at ht
  obtain ⟨he,hp⟩:=ht
  have he':e=(x:Int)+w.lg:=by rw [← he];unfold uniP;omega
  refine ⟨he',fun u hu hc=>?_,fun F' hF'=>?_⟩
  ·obtain ⟨y,ey⟩:=Int.eq_ofNat_of_zero_le (show 0≤u by omega)
   have:=k2 y (by omega) (by omega)
   unfold badF at this
   rw [decide_eq_false_iff_not,← ey] at this
   exact this hu
  ·have hb:∀ y,badF ⟨R.L,F',R.W⟩ y=true→badF R y=true:=fun y hy=>by
    unfold badF at hy ⊢
    rw [decide_eq_true_eq] at hy ⊢
    exact hF' _ hy
   have hu:uniP ⟨R.L,F',R.W⟩ w x j=uniP R w x j:=k1 _ hb
   unfold takL okT
   rw [hu,hl,if_pos]
   ·rw [he,hp]
   ·refine ⟨?_,c2⟩
    rw [Bool.and_eq_true,decide_eq_true_eq,Bool.not_eq_true',Bool.and_eq_false_iff]
    refine ⟨?_,c1⟩
    rcases c0 with c0|c0
    ·exact .inl c0
    ·exact .inr (Bool.eq_false_iff.2 fun q=>by rw [hb x q] at c0;cases c0)
 ·cases ht
theorem valD_less {L:Int} {F F':List Int} {W:List Wnt} (h0:∀ w ∈ W,w.fl=0∧w.jn=0) (hF:∀ u ∈ F',u ∈ F) (hR:RibOk ⟨L,F,W⟩) (hR':RibOk ⟨L,F',W⟩):valD ⟨L,F,W⟩ 0≤valD ⟨L,F',W⟩ 0 :=
 valD_mono hR hR' (Nat.le_refl _) fun k w x j e p _ hw ht=>by
  have hm:=List.mem_of_getElem? hw
  exact ⟨k,w,p,hw,(takL_clean (hR.W w hm) (h0 w hm) ht).2.2 F' hF,Int.le_refl _⟩
end Go.AM
namespace Go.AM
structure Bij (n:Int) (p q:Int→Int):Prop where
 to:∀ i,0≤i∧i<n→(0≤p i∧p i<n)∧q (p i)=i
 fro:∀ i,0≤i∧i<n→(0≤q i∧q i<n)∧p (q i)=i
end Go.AM
namespace Go.AM
def lexB:List Int→List Int→Bool
 | x :: a,y :: b=>if x=y then lexB a b else decide (x<y)
 | _,_=>false
end Go.AM
namespace Go.AM
namespace L3
abbrev Rw3:=Int × Int × Int
structure Lac where
 T:Int
 C:List Int
 R:List Rw3
def setB (T x:Int):Bool:=decide (0≤x∧x≤2 ^ T.toNat-1)
def subB (a b:Int):Bool:=decide (a.toNat &&& b.toNat=a.toNat)
def twB (l:List Int):Bool:=decide (¬ l.Nodup)
def chkL (L:Lac):Int :=
 if ¬ (1≤L.T∧L.T≤8) then 3 else
 if ¬ (1≤(L.C.length:Int)∧(L.C.length:Int)≤7) ∨ (L.R.length:Int) > 12 then 2 else
 if ¬ (L.C.all (setB L.T))=true ∨ ¬ (L.R.all fun r=>decide (0≤r.1∧r.1≤999) && setB L.T r.2.1)=true then 3 else
 if ¬ (L.R.all fun r=>setB L.T r.2.2 && subB r.2.2 r.2.1)=true then 8 else
 if twB L.C=true then 5 else 0
structure LacOk (L:Lac):Prop where
 T:1≤L.T∧L.T≤8
 n:1≤L.C.length∧L.C.length≤7
 m:L.R.length≤12
 c:∀ x ∈ L.C,0≤x∧x≤2 ^ L.T.toNat-1
 r:∀ r ∈ L.R,(0≤r.1∧r.1≤999)∧(0≤r.2.1∧r.2.1≤2 ^ L.T.toNat-1)∧(0≤r.2.2∧r.2.2≤2 ^ L.T.toNat-1)∧r.2.2.toNat &&& r.2.1.toNat=r.2.2.toNat
 d:L.C.Nodup
def fitB (L:Lac) (p k:Nat):Bool:=L.R.all fun r=>decide (r.1.toNat % L.C.length=p→(L.C.getD k 0).toNat &&& r.2.1.toNat=r.2.2.toNat)
def ordsF (fit:Nat→Nat→Bool) (n:Nat):Nat→List Int→List (List Int)
 | 0,l=>[l]
 | d+1,l=>(upto n).flatMap fun k=>if (fit l.length k.toNat && decide (k ∉ l))=true then ordsF fit n d (l++[k]) else []
def Ord (n:Nat) (l:List Int):Prop:=l.length=n∧(∀ x ∈ l,0≤x∧x<(n:Int))∧l.Nodup
def fnd (L:Lac):List (List Int):=ordsF (fitB L) L.C.length L.C.length []
def Xpl (L:Lac) (o:List Int):Prop:=∀ i,i<o.length→fitB L i (o.getD i 0).toNat=true
end L3
end Go.AM
namespace Go.AM
namespace L3
open Go.Proofs.Tryz
def encR:Enc Rw3:=⟨3,fun r=>[.int .i64 r.1,.int .i64 r.2.1,.int .i64 r.2.2],fun _=>rfl,by decide⟩
def encM:Enc (Int × Int):=⟨2,fun m=>[.int .i64 m.1,.int .i64 m.2],fun _=>rfl,by decide⟩
def LacAt (h:Heap) (v:AVal) (L:Lac):Prop:=∃ cv rv,v=.agg [.int .i64 L.T,cv,rv]∧Ints h cv L.C∧Rows encR h rv L.R
theorem LacAt.ext {h H:Heap} {v:AVal} {L:Lac} (x:LacAt h v L) (e:Ext h H):LacAt H v L:=by
 obtain ⟨cv,rv,rfl,h1,h2⟩:=x
 exact ⟨cv,rv,rfl,h1.ext e,h2.ext e⟩
section
variable {b:Nat} {H H':Heap} {v:AVal} {ts:List (List Int)}
def encZ:Enc AVal:=⟨1,fun v=>[norm v],fun _=>rfl,by decide⟩
def AllI (b:Nat) (H:Heap) (v:AVal) (ts:List (List Int)):Prop:=∃ vs:List AVal,Own encZ 35 b H v vs∧vs.length=ts.length∧∀ (i:Nat) x t,vs[i]?=some x→ts[i]?=some t→OwnE encI 3 0 H x t
theorem AllI.ext (x:AllI b H v ts) (e:Ext H H'):AllI b H' v ts:=by
 obtain ⟨vs,h1,h2,h3⟩:=x
 exact ⟨vs,h1.ext e,h2,fun i x t a c=>(h3 i x t a c).ext e⟩
theorem AllI.one (x:AllI b H v ts):One v:=by obtain ⟨vs,h1,_⟩:=x;exact h1.one
theorem AllI.low {b':Nat} (x:AllI b H v ts) (hb:b'≤b):AllI b' H v ts:=by
 obtain ⟨vs,h1,h2,h3⟩:=x
 exact ⟨vs,h1.low hb,h2,h3⟩
theorem AllI.rows (x:AllI b H v ts) (hl:ts.length<2 ^ 60):∃ vs,Rows encZ H v vs∧vs.length=ts.length:=by
 obtain ⟨vs,h1,h2,_⟩:=x
 exact ⟨vs,h1.rows (by omega),h2⟩
theorem AllI.len (x:AllI b H v ts) (hl:ts.length<2 ^ 60):lenOpA prog H 31 v=some (.int .i64 (ts.length:Int)):=by
 obtain ⟨vs,h1,h2,_⟩:=x
 have:=(h1.rows (by omega)).len (P:=prog) Fc.el31
 rwa [h2] at this
theorem AllI.at (x:AllI b H v ts) (hl:ts.length<2 ^ 60) {i:Nat} {t:List Int} (ht:ts[i]?=some t) :
  ∃ a w,indexAddrA prog 31 v (.int .i64 (i:Int))=some a∧(∀ K,Ext H K→loadP prog K 35 a=some w)∧OwnE encI 3 0 H w t:=by
 obtain ⟨vs,h1,h2,h3⟩:=x
 have hi:i<ts.length:=(List.getElem?_eq_some_iff.1 ht).1
 have hx:vs[i]?=some vs[i]:=List.getElem?_eq_getElem (by omega)
 have hR:=h1.rows (show vs.length<2 ^ 60 by omega)
 have ad:=hR.addr (P:=prog) (i:=(i:Int)) Fc.el31 Fc.ar31 (by omega) (by omega)
 rw [Int.toNat_natCast] at ad
 have hw:=h3 i _ _ hx ht
 refine ⟨_,_,ad,fun K e=>?_,hw⟩
 exact (hR.ext e).cell (P:=prog) Fc.ty35 hx (o:=0) (a:=vs[i]) (by simp only [encZ,norm_one hw.one];rfl)
end
end L3
end Go.AM
namespace Go.AM
namespace L3
open Go.Proofs.Tryz
attribute [-go_sem] put_ne put_same
attribute [local go_sem ↓] put_if
def KeepP (A:Nat) (pr:ABlk→Prop) (H H':Heap):Prop:=H.length≤H'.length∧∀ i x,A≤i→pr x→H[i]?=some x→H'[i]?=some x
section
variable {A:Nat} {pr:ABlk→Prop} {H H' H2:Heap}
theorem KeepP.refl:KeepP A pr H H:=⟨Nat.le_refl _,fun _ _ _ _ h=>h⟩
end
end L3
end Go.AM
namespace Go.AM
namespace L3
def stp (o1 o2:List Int) (p:Nat):Nat:=o2.idxOf (o1.getD p 0)
def itr (o1 o2:List Int) (a:Nat):Nat→Nat
 | 0=>a
 | i+1=>stp o1 o2 (itr o1 o2 a i)
def rngL (o1 o2:List Int) (a r:Nat):List Int:=lst (fun i=>(itr o1 o2 a i:Int)) r
section
variable {n:Nat} {o1 o2:List Int} (h1:Ord n o1) (h2:Ord n o2)
include h1 h2
end
def trnS (o ring:List Int) (out:List Int) (i:Nat):List Int:=out.set (ring.getD ((i+1) % ring.length) 0).toNat (o.getD (ring.getD i 0).toNat 0)
def trnN (o ring:List Int):Nat→List Int
 | 0=>o
 | i+1=>trnS o ring (trnN o ring i) i
def trnL (o ring:List Int):List Int:=trnN o ring ring.length
section
variable {n:Nat} {o1 o2:List Int} (h1:Ord n o1) (h2:Ord n o2) {a r:Nat} (ha:a<n) (hr:0<r) (hb:itr o1 o2 a r=a) (hm:∀ i,0<i→i<r→itr o1 o2 a i ≠ a)
include h1 h2 ha hr hb hm
end
end L3
end Go.AM
namespace Go.AM
namespace L3
def bstI (o out:List Int) (p:Nat):Nat→Int
 | 0=>0
 | j+1=>if o.getD (p+1+j) 0 > o.getD p 0 then max (bstI o out p j) (out.getD (p+1+j) 0) else bstI o out p j
def rsN (o:List Int):Nat→List Int
 | 0=>List.replicate o.length 0
 | k+1=>(rsN o k).set (o.length-1-k) (bstI o (rsN o k) (o.length-1-k) k+1)
def rsA (o:List Int):List Int:=rsN o o.length
structure RsV (o:List Int) (V:Nat→Int):Prop where
 pos:∀ p,p<o.length→1≤V p
 dn:∀ p q,p<q→q<o.length→o.getD p 0<o.getD q 0→V q+1≤V p
 is:∀ p,p<o.length→V p=1 ∨ ∃ q,p<q∧q<o.length∧o.getD p 0<o.getD q 0∧V p=V q+1
def rsR (o:List Int) (p q:Int):Prop:=p<q∧o.getD p.toNat 0<o.getD q.toNat 0
def RiseP (o l:List Int):Prop:=l.Pairwise (rsR o)∧∀ p ∈ l,0≤p∧p<(o.length:Int)
section
variable {o:List Int} {V:Nat→Int} (hV:RsV o V)
include hV
end
def nxtB (o:List Int) (V:Nat→Int) (out:List Int) (left:Int) (p:Int):Bool :=
 decide (V p.toNat=left) && (match out.getLast? with|none=>true|some a=>decide (a<p∧o.getD a.toNat 0<o.getD p.toNat 0))
def riseS (o:List Int) (V:Nat→Int) (out:List Int) (left:Int):List Int :=
 match (upto o.length).find? (nxtB o V out left) with|some p=>out++[p]|none=>out
def riseF (o:List Int) (V:Nat→Int):Nat→List Int→List Int
 | 0,out=>out
 | m+1,out=>riseF o V m (riseS o V out (m+1:Nat))
section
variable {o:List Int} {V:Nat→Int} (hV:RsV o V)
include hV
end
def IsRise (o x:List Int):Prop:=RiseP o x∧∀ y,RiseP o y→y.length<x.length ∨ (y.length=x.length∧(y=x ∨ lexB x y=true))
def grt (l:List Int):Int:=l.foldl max 0
def riseL (o:List Int):List Int:=riseF o (fun p=>(rsA o).getD p 0) (grt (rsA o)).toNat []
end L3
end Go.AM
namespace Go.AM
namespace L3
open Go.Proofs.Tryz
attribute [-go_sem] put_ne put_same
attribute [local go_sem ↓] put_if
abbrev evB (g:AVal):ABlk:=⟨.cells [g] 132 false false,0⟩
def ordL (l:List Int) (n:Int):Int:=if (l.length:Int) ≠ n then 2 else if ¬ (l.all fun k=>decide (0≤k∧k≤n-1))=true then 1 else if twB l=true then 5 else 0
abbrev nB (n:Int):ABlk:=⟨.cells [.int .i64 n] 3 false false,0⟩
def aloL (l:List Int):Int:=if ¬ (1≤(l.length:Int)∧(l.length:Int)≤7) then 2 else ordL l l.length
end L3
end Go.AM
namespace Go.AM
namespace L3
open Go.Proofs.Tryz
attribute [-go_sem] put_ne put_same
attribute [local go_sem ↓] put_if
end L3
end Go.AM
namespace Go.AM
namespace L3
open Go.Proofs.Tryz
attribute [-go_sem] put_ne put_same
attribute [local go_sem ↓] put_if
end L3
end Go.AM
namespace Go.AM
namespace L3
open Go.Proofs.Tryz
attribute [-go_sem] put_ne put_same
attribute [local go_sem ↓] put_if
def mpR (es:List (Nat × AVal)):List (AVal × AVal):=es.map fun e=>(.int .i64 (e.1:Int),e.2)
def lkE:List (Nat × AVal)→Nat→AVal
 | [],_=>.slice none 0 0
 | (j,v) :: es,k=>if k=j then v else lkE es k
def upE:List (Nat × AVal)→Nat→AVal→List (Nat × AVal)
 | [],k,v=>[(k,v)]
 | (j,w) :: es,k,v=>if k=j then (k,v) :: es else (j,w) :: upE es k v
def ixE:List (Nat × AVal)→Nat→Option Nat
 | [],_=>none
 | (j,_) :: es,k=>if k=j then some 0 else (ixE es k).map (·+1)
def flD (L:Lac) (p k:Nat):List Bool:=(List.range 49).map fun i=>decide (i / 7<L.C.length∧i % 7<L.C.length∧(i / 7<p ∨ (i / 7=p∧i % 7<k))) && fitB L (i / 7) (i % 7)
def flA (L:Lac):List Bool:=flD L L.C.length 0
def rwsP (L:Lac) (i p:Nat):List Rw3:=(L.R.take i).filter fun r=>decide (r.1.toNat % L.C.length=p)
end L3
end Go.AM
namespace Go.AM
namespace L3
open Go.Proofs.Tryz
attribute [-go_sem] put_ne put_same
attribute [local go_sem ↓] put_if
end L3
end Go.AM
namespace Go.AM
namespace L3
open Go.Proofs.Tryz
attribute [-go_sem] put_ne put_same
attribute [local go_sem ↓] put_if
def fitN (L:Lac) (p k:Nat):List Int:=(upto k).filter fun k=>fitB L p k.toNat
def fitL (L:Lac) (p:Nat):List Int:=fitN L p L.C.length
def row7 (L:Lac) (i:Nat):List Bool:=((flA L).drop (i * 7)).take 7
end L3
end Go.AM
namespace Go.AM
namespace L3
open Go.Proofs.Tryz
attribute [-go_sem] put_ne put_same
attribute [local go_sem ↓] put_if
abbrev z7:AVal:=.agg [.bool false,.bool false,.bool false,.bool false,.bool false,.bool false,.bool false]
def nof (L:Lac) (i:Nat):Bool:=!(row7 L i).any id
def nofB (L:Lac):Bool:=(List.range L.C.length).any (nof L)
end L3
end Go.AM
namespace Go.AM
namespace L3
open Go.Proofs.Tryz
attribute [-go_sem] put_ne put_same
attribute [local go_sem ↓] put_if
def prZ (x:ABlk):Prop:=∀ (l:List AVal) ver,x ≠ rowE encZ 35 l ver
theorem prZ_box {c:List AVal} {t:TypeId} {ro:Bool} {u:Nat}:prZ ⟨.cells c t false ro,u⟩:=fun l ver q=>by simp [rowE] at q
theorem KeepP.box {A i:Nat} {H H':Heap} {c:List AVal} {t:TypeId} {ro:Bool} {u:Nat} (k:KeepP A prZ H H') (hi:A≤i) (hg:H[i]?=some ⟨.cells c t false ro,u⟩):H'[i]?=some ⟨.cells c t false ro,u⟩:=k.2 _ _ hi prZ_box hg
abbrev fnB (g:AVal):ABlk:=⟨.cells [g] 210 false false,0⟩
abbrev lB (v:AVal):ABlk:=⟨.cells [v] 35 false false,0⟩
def nxtF (L:Lac) (d:Nat) (l:List Int) (k:Int):List (List Int):=if k ∈ l then [] else ordsF (fitB L) L.C.length d (l++[k])
def cntF (L:Lac) (d:Nat) (l:List Int) (m:Nat):Nat:=(((fitL L l.length).take m).flatMap (nxtF L d l)).length
end L3
end Go.AM
namespace Go.AM
namespace L3
open Go.Proofs.Tryz
attribute [-go_sem] put_ne put_same
attribute [local go_sem ↓] put_if
def XO (L:Lac) (Lx j:Nat) (a:List AVal) (H:Heap):Prop:=∃ v t,a=[v]∧(fnd L)[j]?=some t∧OwnE encI 3 (Lx+1) H v t
end L3
end Go.AM
namespace Go.AM
namespace L3
open Go.Proofs.Tryz
attribute [-go_sem] put_ne put_same
attribute [local go_sem ↓] put_if
def AllB (b:Nat) (H:Heap) (v:AVal) (ts:List (List Int)):Prop:=∃ vs:List AVal,Own encZ 35 b H v vs∧vs.length=ts.length∧∀ (i:Nat) x t,vs[i]?=some x→ts[i]?=some t→OwnE encI 3 b H x t
section
variable {b:Nat} {H H':Heap} {v:AVal} {ts:List (List Int)}
theorem AllB.all (x:AllB b H v ts):AllI b H v ts:=by
 obtain ⟨vs,h1,h2,h3⟩:=x
 exact ⟨vs,h1,h2,fun i x t a c=>(h3 i x t a c).low (Nat.zero_le _)⟩
theorem AllB.ext (x:AllB b H v ts) (e:Ext H H'):AllB b H' v ts:=by
 obtain ⟨vs,h1,h2,h3⟩:=x
 exact ⟨vs,h1.ext e,h2,fun i x t a c=>(h3 i x t a c).ext e⟩
theorem AllB.set {i:Nat} {k:ABlk} (x:AllB b H v ts) (hi:i<b):AllB b (H.set i k) v ts:=by
 obtain ⟨vs,h1,h2,h3⟩:=x
 exact ⟨vs,h1.set hi,h2,fun i x t a c=>(h3 i x t a c).imp (fun z=>z.set hi) id⟩
theorem AllB.one (x:AllB b H v ts):One v:=by obtain ⟨vs,h1,_⟩:=x;exact h1.one
theorem AllB.low {b':Nat} (x:AllB b H v ts) (hb:b'≤b):AllB b' H v ts:=by
 obtain ⟨vs,h1,h2,h3⟩:=x
 exact ⟨vs,h1.low hb,h2,fun i x t a c=>(h3 i x t a c).low hb⟩
end
def fndE (L:Lac):List (List Int) × Int:=if chkL L ≠ 0 then ([],chkL L) else if fnd L=[] then ([],7) else (fnd L,0)
abbrev lsB (v:AVal):ABlk:=⟨.cells [v] 31 false false,0⟩
end L3
end Go.AM
namespace Go.AM
namespace L3
theorem countP_split {α:Type} {s t:α→Bool}:∀ {l:List α},l.countP (fun x=>s x || t x)=l.countP s+l.countP fun x=>!s x && t x
 | []=>rfl
 | x :: l=>by
  have ih:=countP_split (s:=s) (t:=t) (l:=l)
  simp only [List.countP_cons]
  rw [ih]
  cases s x<;>cases t x<;>simp<;>omega
theorem any_or' {α:Type} {s t:α→Bool}:∀ {l:List α},l.any (fun x=>s x || t x)=(l.any s || l.any t)
 | []=>rfl
 | x :: l=>by
  rw [List.any_cons,List.any_cons,List.any_cons,any_or' (l:=l)]
  cases s x<;>cases t x<;>cases l.any s<;>cases l.any t<;>rfl
theorem countP_ne {β:Type} [DecidableEq β] {s:β→Bool} {k:β}:∀ {l:List β},l.Nodup→l.countP s≤(l.filter fun x=>decide (x ≠ k)).countP s+1
 | [],_=>by simp
 | x :: l,h=>by
  rw [List.nodup_cons] at h
  by_cases e:x=k
  ·subst e
   have e2:l.filter (fun y=>decide (y ≠ x))=l:=List.filter_eq_self.2 fun y hy=>decide_eq_true fun q=>h.1 (q ▸ hy)
   rw [List.filter_cons,if_neg (by simp),e2,List.countP_cons]
   split<;>omega
  ·have ih:=countP_ne (s:=s) (k:=k) h.2
   rw [List.filter_cons,if_pos (by simp [e]),List.countP_cons,List.countP_cons]
   omega
section
variable {α β:Type} [DecidableEq α] [DecidableEq β] [Inhabited β]
def HallC (fit:α→β→Bool) (P:List α) (K:List β):Prop:=∀ s:α→Bool,P.countP s≤K.countP fun k=>P.any fun q=>s q && fit q k
theorem hall_aux (fit:α→β→Bool):∀ (n:Nat) (P:List α) (K:List β),P.length≤n→P.Nodup→K.Nodup→HallC fit P K→∃ m:α→β,(∀ p ∈ P,m p ∈ K∧fit p (m p)=true)∧∀ p ∈ P,∀ q ∈ P,m p=m q→p=q
 | n,[],K,_,_,_,_=>⟨fun _=>default,by simp,by simp⟩
 | 0,p :: P,_,hl,_,_,_=>by simp at hl
 | n+1,p :: P,K,hl,hP,hK,hH=>by
  obtain ⟨hp,hP'⟩:=List.nodup_cons.1 hP
  by_cases hA:∃ s:α→Bool,s p=false∧(∃ q ∈ P,s q=true)∧K.countP (fun k=>(p :: P).any fun q=>s q && fit q k)≤(p :: P).countP s
  ·obtain ⟨s,hs,⟨q0,hq0,hsq⟩,hle⟩:=hA
   have c1:HallC fit ((p :: P).filter s) K:=fun t=>by
    have:=hH fun q=>s q && t q
    rw [List.countP_filter]
    simp only [List.any_filter]
    have e1:(p :: P).countP (fun a=>t a && s a)=(p :: P).countP fun a=>s a && t a:=List.countP_congr fun a _=>by rw [Bool.and_comm]
    rw [e1]
    refine Nat.le_trans this (Nat.le_of_eq (List.countP_congr fun k _=>?_))
    rw [show ((p :: P).any fun q=>(s q && t q) && fit q k)=((p :: P).any fun q=>s q && (t q && fit q k)) from by simp only [Bool.and_assoc]]
   obtain ⟨N,eN⟩:∃ N:β→Bool,N=fun k=>(p :: P).any fun q=>s q && fit q k:=⟨_,rfl⟩
   have c2:HallC fit ((p :: P).filter fun q=>!s q) (K.filter fun k=>!N k):=fun t=>by
    have h0:=hH fun q=>s q || (!s q && t q)
    rw [countP_split] at h0
    have e2:(p :: P).countP (fun x=>!s x && (!s x && t x))=(p :: P).countP fun x=>t x && !s x:=List.countP_congr fun a _=>by cases s a<;>simp
    rw [e2] at h0
    rw [List.countP_filter,List.countP_filter]
    simp only [List.any_filter]
    have e3:(K.countP fun k=>(p :: P).any fun q=>(s q || (!s q && t q)) && fit q k)=K.countP fun k=>N k || ((p :: P).any fun q=>!s q && (t q && fit q k)):=List.countP_congr fun k _=>by
     rw [eN,← Bool.eq_iff_iff]
     simp only []
     rw [← any_or']
     congr 1
     funext q
     cases s q<;>simp
    rw [e3,countP_split] at h0
    rw [← eN] at hle
    have e4:(K.countP fun x=>!N x && ((p :: P).any fun q=>!s q && (t q && fit q x)))=K.countP fun a=>((p :: P).any fun x=>!s x && (t x && fit x a)) && !N a:=List.countP_congr fun a _=>by rw [Bool.and_comm]
    rw [e4] at h0
    omega
   have l0:((p :: P).filter s).length≤n:=by
    rw [List.filter_cons,if_neg (by simp [hs])]
    have:=List.length_filter_le s P
    simp at hl;omega
   have l1:((p :: P).filter fun q=>!s q).length≤n:=by
    rw [List.filter_cons,if_pos (by simp [hs])]
    have:(P.filter fun q=>!s q).length<P.length:=by
     rw [← List.countP_eq_length_filter]
     have h1:=List.length_eq_countP_add_countP (l:=P) s
     have h2:0<P.countP s:=List.countP_pos_iff.2 ⟨q0,hq0,hsq⟩
     have e:P.countP (fun q=>!s q)=P.countP (fun a=>decide ¬ s a=true):=List.countP_congr fun a _=>by cases s a<;>simp
     omega
    simp at hl ⊢;omega
   obtain ⟨m1,a1,b1⟩:=hall_aux fit n _ K l0 (hP.filter _) hK c1
   obtain ⟨m2,a2,b2⟩:=hall_aux fit n _ _ l1 (hP.filter _) (hK.filter _) c2
   refine ⟨fun q=>if s q=true then m1 q else m2 q,fun q hq=>?_,fun q hq r hr e=>?_⟩
   ·by_cases c:s q=true
    ·dsimp only;rw [if_pos c]
     exact a1 q (List.mem_filter.2 ⟨hq,c⟩)
    ·dsimp only;rw [if_neg c]
     have:=a2 q (List.mem_filter.2 ⟨hq,by simp [c]⟩)
     exact ⟨(List.mem_filter.1 this.1).1,this.2⟩
   ·have hN:∀ q ∈ p :: P,s q=true→N (m1 q)=true:=fun q hq c=>by
     rw [eN]
     exact List.any_eq_true.2 ⟨q,hq,by rw [c,(a1 q (List.mem_filter.2 ⟨hq,c⟩)).2];rfl⟩
    have hM:∀ q ∈ p :: P,¬ s q=true→N (m2 q)=false:=fun q hq c=>by
     have:=(List.mem_filter.1 (a2 q (List.mem_filter.2 ⟨hq,by simp [c]⟩)).1).2
     simpa using this
    simp only at e
    by_cases c:s q=true
    ·by_cases d:s r=true
     ·rw [if_pos c,if_pos d] at e
      exact b1 q (List.mem_filter.2 ⟨hq,c⟩) r (List.mem_filter.2 ⟨hr,d⟩) e
     ·rw [if_pos c,if_neg d] at e
      have h1:=hN q hq c
      rw [e,hM r hr d] at h1
      cases h1
    ·by_cases d:s r=true
     ·rw [if_neg c,if_pos d] at e
      have h1:=hN r hr d
      rw [← e,hM q hq c] at h1
      cases h1
     ·rw [if_neg c,if_neg d] at e
      exact b2 q (List.mem_filter.2 ⟨hq,by simp [c]⟩) r (List.mem_filter.2 ⟨hr,by simp [d]⟩) e
  · -- no list is tight
   have h1:=hH fun q=>decide (q=p)
   have hpos:0<(p :: P).countP fun q=>decide (q=p):=List.countP_pos_iff.2 ⟨p,by simp,by simp⟩
   obtain ⟨k,hkK,hk⟩:=List.countP_pos_iff.1 (Nat.lt_of_lt_of_le hpos h1)
   obtain ⟨q,hq,hqk⟩:=List.any_eq_true.1 hk
   rw [Bool.and_eq_true,decide_eq_true_eq] at hqk
   obtain ⟨rfl,hfk⟩:=hqk
   have c1:HallC fit P (K.filter fun x=>decide (x ≠ k)):=fun t=>by
    by_cases ht:∃ r ∈ P,t r=true
    ·obtain ⟨r,hr,htr⟩:=ht
     have hs:¬ K.countP (fun k=>(q :: P).any fun x=>(t x && decide (x ≠ q)) && fit x k)≤(q :: P).countP fun x=>t x && decide (x ≠ q):=fun hle =>
      hA ⟨fun x=>t x && decide (x ≠ q),by simp,⟨r,hr,by dsimp only;rw [htr];simp;rintro rfl;exact hp hr⟩,hle⟩
     have e1:((q :: P).countP fun x=>t x && decide (x ≠ q))=P.countP t:=by
      rw [List.countP_cons_of_neg (by simp)]
      exact List.countP_congr fun a ha=>by simp;rintro _ rfl;exact hp ha
     have e2:(fun k=>(q :: P).any fun x=>(t x && decide (x ≠ q)) && fit x k)=fun k=>P.any fun x=>t x && fit x k:=by
      funext k
      rw [List.any_cons,show ((t q && decide (q ≠ q)) && fit q k)=false by simp,Bool.false_or]
      refine Bool.eq_iff_iff.2 ⟨fun h=>?_,fun h=>?_⟩
      ·obtain ⟨x,hx,hc⟩:=List.any_eq_true.1 h
       simp only [Bool.and_eq_true] at hc
       exact List.any_eq_true.2 ⟨x,hx,by rw [hc.1.1,hc.2];rfl⟩
      ·obtain ⟨x,hx,hc⟩:=List.any_eq_true.1 h
       simp only [Bool.and_eq_true] at hc
       exact List.any_eq_true.2 ⟨x,hx,by rw [hc.1,hc.2];simp;rintro rfl;exact hp hx⟩
     rw [e1,e2] at hs
     have:=countP_ne (s:=fun k=>P.any fun x=>t x && fit x k) (k:=k) hK
     omega
    ·have:P.countP t=0:=List.countP_eq_zero.2 fun r hr htr=>ht ⟨r,hr,htr⟩
     omega
   obtain ⟨m,a,b⟩:=hall_aux fit n P _ (by simpa using hl) hP' (hK.filter _) c1
   refine ⟨fun x=>if x=q then k else m x,fun x hx=>?_,fun x hx y hy e=>?_⟩
   ·by_cases c:x=q
    ·dsimp only;rw [if_pos c,c];exact ⟨hkK,hfk⟩
    ·dsimp only;rw [if_neg c]
     have:=a x ((List.mem_cons.1 hx).resolve_left c)
     exact ⟨(List.mem_filter.1 this.1).1,this.2⟩
   ·simp only at e
    have hm:∀ x ∈ q :: P,x ≠ q→m x ≠ k:=fun x hx c=>of_decide_eq_true (List.mem_filter.1 (a x ((List.mem_cons.1 hx).resolve_left c)).1).2
    by_cases c:x=q
    ·by_cases d:y=q
     ·rw [c,d]
     ·rw [if_pos c,if_neg d] at e
      exact absurd e.symm (hm y hy d)
    ·by_cases d:y=q
     ·rw [if_neg c,if_pos d] at e
      exact absurd e (hm x hx c)
     ·rw [if_neg c,if_neg d] at e
      exact b x ((List.mem_cons.1 hx).resolve_left c) y ((List.mem_cons.1 hy).resolve_left d) e
end
theorem hall {n:Nat} {fit:Nat→Nat→Bool} (h:∀ s:List Int,s.Sublist (upto n)→s.length≤((upto n).filter fun k=>s.any fun p=>fit p.toNat k.toNat).length):∃ o:List Int,o.length=n∧(∀ x ∈ o,0≤x∧x<(n:Int))∧o.Nodup∧∀ i,i<n→fit i (o.getD i 0).toNat=true:=by
 have hn:(upto n).Nodup:=(upto_sorted n).imp fun h=>by omega
 obtain ⟨m,h1,h2⟩:=hall_aux (fun p k:Int=>fit p.toNat k.toNat) n (upto n) (upto n) (by rw [upto_len];exact Nat.le_refl _) hn hn (fun s=>by
  have:=h _ (List.filter_sublist (p:=s) (l:=upto n))
  rw [← List.countP_eq_length_filter,← List.countP_eq_length_filter] at this
  simp only [List.any_filter] at this
  exact this)
 have hlen:((upto n).map m).length=n:=by rw [List.length_map,upto_len]
 refine ⟨(upto n).map m,hlen,fun x hx=>?_,?_,fun i hi=>?_⟩
 ·obtain ⟨p,hp,rfl⟩:=List.mem_map.1 hx
  exact upto_mem.1 (h1 p hp).1
 ·show ((upto n).map m).Pairwise _
  rw [List.pairwise_map]
  exact hn.imp_of_mem fun {a b} ha hb hab e=>hab (h2 a ha b hb e)
 ·have e:((upto n).map m).getD i 0=m (i:Int):=by
   rw [List.getD_eq_getElem?_getD,List.getElem?_map,show (upto n)[i]?=some (i:Int) by unfold upto lst;rw [List.getElem?_map,List.getElem?_range hi];rfl]
   rfl
  rw [e]
  have:=(h1 (i:Int) (upto_mem.2 (by omega))).2
  simpa using this
end L3
end Go.AM
namespace Go.AM
namespace L3
def topV (o pile:List Int):Int:=o.getD (pile.getLastD 0).toNat 0
def pilI (o:List Int) (ps:List (List Int)) (k:Int):Int:=idx (fun pile=>decide (topV o pile > k)) ps
def pilS (o:List Int) (ps:List (List Int)) (p:Nat):List (List Int) :=
 if pilI o ps (o.getD p 0)<0 then ps++[[(p:Int)]] else ps.set (pilI o ps (o.getD p 0)).toNat (ps.getD (pilI o ps (o.getD p 0)).toNat []++[(p:Int)])
def pilN (o:List Int):Nat→List (List Int)
 | 0=>[]
 | n+1=>pilS o (pilN o n) n
def PilR (o:List Int) (p q:Int):Prop:=p<q∧o.getD q.toNat 0<o.getD p.toNat 0
structure Pils (o:List Int) (n:Nat) (ps:List (List Int)):Prop where
 ne:∀ x ∈ ps,x ≠ []
 dn:∀ x ∈ ps,x.Pairwise (PilR o)
 all:ps.flatten.Perm (upto n)
 hd:∀ i j,i<j→j<ps.length→(ps.getD i []).headD 0<(ps.getD j []).headD 0
 ch:∀ i,i<ps.length→∀ p ∈ ps.getD i [],∃ l,RiseP o l∧l.length=i+1∧l.getLast?=some p
end L3
end Go.AM
namespace Go.AM
namespace L3
def mvL (o:List Int) (f t:Nat):List Int:=(o.eraseIdx f).insertIdx t (o.getD f 0)
def makF (n:Nat):List (Int × Int)→List Int→List Int × Int
 | [],o=>(o,0)
 | m :: ms,o=>if (0≤m.1∧m.1<(n:Int))∧(0≤m.2∧m.2<(n:Int)) then makF n ms (mvL o m.1.toNat m.2.toNat) else ([],1)
def SubR (o s:List Int):Prop:=s.Sublist o∧s.Pairwise (·<·)
def lisN (o:List Int):Nat:=(riseL o).length
def mndT (rest kept:List Int) (k:Int):Nat→Nat
 | 0=>0
 | i+1=>if rest.getD i 0<k∧rest.getD i 0 ∈ kept then i+1 else mndT rest kept k i
structure MndS where
 o:List Int
 kept:List Int
 out:List (Int × Int)
def mndS (s:MndS) (k:Int):MndS :=
 if k ∈ s.kept then s else
 let f:=s.o.idxOf k
 let t:=mndT (s.o.eraseIdx f) s.kept k (s.o.eraseIdx f).length
 ⟨mvL s.o f t,s.kept++[k],if f=t then s.out else s.out++[((f:Int),(t:Int))]⟩
def mndN (s:MndS):Nat→MndS
 | 0=>s
 | k+1=>mndS (mndN s k) (k:Int)
def mndL (o:List Int):List (Int × Int):=(mndN ⟨o,(riseL o).map fun p=>o.getD p.toNat 0,[]⟩ o.length).out
structure MndI (n:Nat) (o0:List Int) (kept0:List Int) (k:Nat) (s:MndS):Prop where
 ord:Ord n s.o
 up:(s.o.filter fun x=>decide (x ∈ s.kept)).Pairwise (·<·)
 kept:∀ x,x ∈ s.kept ↔ x ∈ kept0 ∨ (0≤x∧x<(k:Int))
 rng:∀ m ∈ s.out,(0≤m.1∧m.1<(n:Int))∧(0≤m.2∧m.2<(n:Int))
 mak:makF n s.out o0=(s.o,0)
 few:s.out.length≤(upto k).countP fun x=>decide (x ∉ kept0)
end L3
end Go.AM
namespace Go.AM
def pickO {α:Type} (better:α→α→Bool) (p:α→Bool) (b:Option α) (x:α):Option α:=if (p x && b.all fun y=>better x y)=true then some x else b
def memS (n s:Nat):List Int:=(upto n).filter fun i=>s.testBit i.toNat
def btG (x y:List Int):Bool:=decide (y.length<x.length) || (decide (x.length=y.length) && lexB x y)
def btL (x y:List Int):Bool:=decide (x.length<y.length) || (decide (x.length=y.length) && lexB x y)
def setsR (n:Nat):Nat→List (List Int)
 | 0=>[]
 | k+1=>setsR n k++[memS n (k+1)]
end Go.AM
namespace Go.AM
def lexC (of:List Int):Nat→List Int→Nat→List (List Int)
 | 0,l,_=>[l]
 | d+1,l,a=>(List.range (of.length-a)).flatMap fun q=>lexC of d (l++[of.getD (a+q) 0]) (a+q+1)
def lexP (of:List Int) (d:Nat) (l:List Int) (a j:Nat):List (List Int):=(List.range j).flatMap fun q=>lexC of d (l++[of.getD (a+q) 0]) (a+q+1)
def visF (p:List Int→Bool):List (List Int)→Option (List Int)→Bool × Option (List Int)
 | [],o=>(false,o)
 | x :: xs,_=>if p x=true then (true,some x) else visF p xs (some x)
theorem visF_app {p:List Int→Bool} {b:List (List Int)}:∀ {a:List (List Int)} {o:Option (List Int)},visF p (a++b) o=if (visF p a o).1=true then visF p a o else visF p b (visF p a o).2
 | [],o=>by simp [visF]
 | x :: a,o=>by
  simp only [List.cons_append,visF]
  split
  ·simp
  ·exact visF_app
end Go.AM
namespace Go.AM
namespace L3
def allS (n:Nat):List (List Int):=(List.range (n+1)).flatMap fun m=>lexC (upto n) m [] 0
def risB (o l:List Int):Bool:=decide (l.Pairwise fun p q=>o.getD p.toNat 0<o.getD q.toNat 0)
def rseR (o:List Int):Nat→List Int
 | 0=>[]
 | s+1=>if (risB o (memS o.length s) && btG (memS o.length s) (rseR o s))=true then memS o.length s else rseR o s
def fittN (L:Lac) (l:List Int):Nat:=((upto L.C.length).filter fun k=>l.any fun p=>fitB L p.toNat k.toNat).length
def gapP (L:Lac) (l:List Int):Bool:=decide (fittN L l<l.length)
def gapO (L:Lac):Option (List Int):=if (visF (gapP L) (allS L.C.length) none).1=true then (visF (gapP L) (allS L.C.length) none).2 else none
def knwL (n:Nat) (os:List (List Int)):List Int:=lst (fun p=>if (os.all fun x=>decide (x.getD p 0=(os.headD []).getD p 0))=true then (os.headD []).getD p 0 else -1) n
def lvsN (n:Nat) (os:List (List Int)) (p:Nat):Int:=grt (lst (fun k=>(os.countP fun o=>decide (o.getD p 0=(k:Int)):Nat)) n)
def askN (n:Nat) (os:List (List Int)):Nat→Int × Int
 | 0=>(0,0)
 | p+1=>if p=0 ∨ lvsN n os p<(askN n os p).2 then ((p:Int),lvsN n os p) else askN n os p
def keyL (l o:List Int):List Int:=l.map fun p=>o.getD p.toNat 0
def dcdP (os:List (List Int)) (l:List Int):Bool:=decide ((os.map (keyL l)).Nodup)
def dcdL (n:Nat) (os:List (List Int)):List Int:=((visF (dcdP os) (allS n) none).2).getD []
def IsDec (n:Nat) (os:List (List Int)) (x:List Int):Prop:=x.Sublist (upto n)∧dcdP os x=true∧∀ y,y.Sublist (upto n)→dcdP os y=true→y=x ∨ btL x y=true
def dcdR (n:Nat) (os:List (List Int)):Nat→Option (List Int)
 | 0=>none
 | s+1=>if ((dcdR n os s).all (fun b=>btL (memS n s) b) && dcdP os (memS n s))=true then some (memS n s) else dcdR n os s
end L3
end Go.AM
namespace Go.AM
namespace L3
open Go.Proofs.Tryz
attribute [-go_sem] put_ne put_same
attribute [local go_sem ↓] put_if
abbrev evZ (g:AVal):ABlk:=⟨.cells [g] 210 false false,0⟩
def frsE (L:Lac):List Int × Int:=if (fndE L).2=0 then ((fnd L).headD [],0) else ([],(fndE L).2)
def cntE (L:Lac):Int × Int:=((fndE L).1.length,if (fndE L).2=7 then 0 else (fndE L).2)
def kwnE (L:Lac):List Int × Int:=if (fndE L).2=0 then (knwL L.C.length (fnd L),0) else ([],(fndE L).2)
end L3
end Go.AM
namespace Go.AM
namespace L3
open Go.Proofs.Tryz
attribute [-go_sem] put_ne put_same
attribute [local go_sem ↓] put_if
def gpsE (L:Lac) (gap:List Int):Int × Int :=
 if chkL L ≠ 0 then (0,chkL L) else if ¬ (gap.all fun x=>decide (0≤x∧x≤(L.C.length:Int)-1))=true then (0,1) else if gap=[] ∨ sortB gap=false ∨ twB gap=true then (0,4) else
 if (gap.length:Int)-fittN L gap<1 then (0,6) else ((gap.length:Int)-fittN L gap,0)
end L3
end Go.AM
namespace Go.AM
namespace L3
open Go.Proofs.Tryz
attribute [-go_sem] put_ne put_same
attribute [local go_sem ↓] put_if
abbrev mrB (f:AVal):ABlk:=⟨.cells [f] 111 false false,0⟩
def OutI (O:Nat) (o:Option (List Int)) (H:Heap):Prop:=∃ v,H[O]?=some (lB v)∧match o with|none=>v=.slice none 0 0|some l=>Own encI 3 (O+1) H v l
theorem OutI.ext {O:Nat} {o:Option (List Int)} {H H':Heap} (x:OutI O o H) (e:Ext H H'):OutI O o H':=by
 obtain ⟨v,h1,h2⟩:=x
 refine ⟨v,e.get h1,?_⟩
 cases o with
 | none=>exact h2
 | some l=>exact Own.ext h2 e
section
variable {base M O S D R many id:Nat} {h:Heap} {g:AVal} {L:Lac} {p:List Int→Bool}
end
end L3
end Go.AM
namespace Go.AM
namespace L3
open Go.Proofs.Tryz
attribute [-go_sem] put_ne put_same
attribute [local go_sem ↓] put_if
def preS (n i:Nat):List (List Int):=(List.range i).flatMap fun m=>lexC (upto n) m [] 0
theorem preS_all {n:Nat}:preS n (n+1)=allS n:=rfl
def ResI (b:Nat) (o:Option (List Int)) (H:Heap) (x:AVal):Prop:=match o with|none=>x=.slice none 0 0|some l=>Own encI 3 b H x l
theorem OutI.res {b O:Nat} {o:Option (List Int)} {H:Heap} (x:OutI O o H) (hb:b≤O):∃ v,H[O]?=some (lB v)∧One v∧ResI b o H v:=by
 obtain ⟨v,h1,h2⟩:=x
 cases o with
 | none=>exact ⟨v,h1,by rw [h2];exact ⟨rfl,rfl,rfl⟩,h2⟩
 | some l=>exact ⟨v,h1,Own.one h2,Own.low h2 (by omega)⟩
end L3
end Go.AM
namespace Go.AM
namespace L3
open Go.Proofs.Tryz
attribute [-go_sem] put_ne put_same
attribute [local go_sem ↓] put_if
def gapE (L:Lac):Int:=if chkL L=0 then (if gapO L=none then 6 else 0) else chkL L
end L3
end Go.AM
namespace Go.AM
namespace L3
open Go.Proofs.Tryz
attribute [-go_sem] put_ne put_same
attribute [local go_sem ↓] put_if
def mpK (ks:List (List Int)):List (AVal × AVal):=ks.map fun k=>(.agg (ints k),.bool true)
end L3
end Go.AM
namespace Go.AM
open Go.Proofs.Tryz
attribute [-go_sem] put_ne put_same
attribute [local go_sem ↓] put_if
end Go.AM
namespace Go.AM
namespace L3
open Go.Proofs.Tryz
attribute [-go_sem] put_ne put_same
attribute [local go_sem ↓] put_if
end L3
end Go.AM
namespace Go.AM
namespace L3
open Go.Proofs.Tryz
attribute [-go_sem] put_ne put_same
attribute [local go_sem ↓] put_if
def risE (o:List Int):List Int × Int:=if aloL o=0 then (riseL o,0) else ([],aloL o)
end L3
end Go.AM
namespace Go.AM
namespace L3
open Go.Proofs.Tryz
attribute [-go_sem] put_ne put_same
attribute [local go_sem ↓] put_if
section
variable {base id ver:Nat} {h:Heap} {m:List Int}
abbrev iB (m:List Int) (ver:Nat):ABlk:=srB m 3 ver
end
end L3
end Go.AM
namespace Go.AM
namespace L3
open Go.Proofs.Tryz
attribute [-go_sem] put_ne put_same
attribute [local go_sem ↓] put_if
theorem ownE_pos {α:Type} {E:Enc α} {e b:Nat} {H:Heap} {v:AVal} {l:List α} (x:OwnE E e b H v l) (h:0<l.length):∃ id ver,v=.slice (some ⟨id,ver,0⟩) l.length l.length∧H[id]?=some (rowE E e l ver)∧b≤id:=by
 rcases x with (⟨_,rfl⟩|⟨id,ver,h1,h2,h3,_⟩)|⟨_,rfl⟩
 ·simp at h
 ·exact ⟨id,ver,h1,h2,h3⟩
 ·simp at h
end L3
end Go.AM
namespace Go.AM
namespace L3
open Go.Proofs.Tryz
attribute [-go_sem] put_ne put_same
attribute [local go_sem ↓] put_if
def knwM (o:List Int) (ok:Nat→Bool):Nat→List Int
 | 0=>o
 | i+1=>if ok i=true then knwM o ok i else (knwM o ok i).set i (-1)
def allK (os:List (List Int)) (k:Int) (p:Nat):Bool:=os.all fun x=>decide (x.getD p 0=k)
end L3
end Go.AM
namespace Go.AM
namespace L3
open Go.Proofs.Tryz
attribute [-go_sem] put_ne put_same
attribute [local go_sem ↓] put_if
def kyN (l o:List Int) (i:Nat):List Int:=((l.take i).map fun p=>o.getD p.toNat 0)++List.replicate (7-i) 0
def kyA (l o:List Int):List Int:=keyL l o++List.replicate (7-l.length) 0
end L3
end Go.AM
namespace Go.AM
namespace L3
open Go.Proofs.Tryz
attribute [-go_sem] put_ne put_same
attribute [local go_sem ↓] put_if
def prC (b:ABlk):Prop:=∀ es,b ≠ ⟨.map es,0⟩
def dcdE (L:Lac):List Int × Int:=if (fndE L).2=0 then (dcdL L.C.length (fnd L),0) else ([],(fndE L).2)
end L3
end Go.AM
namespace Go.AM
namespace L3
open Go.Proofs.Tryz
attribute [-go_sem] put_ne put_same
attribute [local go_sem ↓] put_if
def fitE (L:Lac) (p:Int):List Int × Int:=if chkL L ≠ 0 then ([],chkL L) else if ¬ (0≤p∧p≤(L.C.length:Int)-1) then ([],1) else (fitL L p.toNat,0)
def xplD (L:Lac) (o:List Int) (i:Nat):Bool:=(List.range i).all fun i=>fitB L i (o.getD i 0).toNat
def lcdE (L:Lac) (o:List Int):Int:=if chkL L=0 then ordL o L.C.length else chkL L
def xpsE (L:Lac) (o:List Int):Bool × Int:=if lcdE L o=0 then (xplD L o o.length,0) else (false,lcdE L o)
def prmB (l:List Int) (n:Nat):Bool:=decide (l.length=n) && (upto n).all fun k=>decide (k ∈ l)
end L3
end Go.AM
namespace Go.AM
namespace L3
open Go.Proofs.Tryz
attribute [-go_sem] put_ne put_same
attribute [local go_sem ↓] put_if
def makE (o:List Int) (ms:List (Int × Int)):List Int × Int:=if aloL o=0 then makF o.length ms o else ([],aloL o)
end L3
end Go.AM
namespace Go.AM
namespace L3
open Go.Proofs.Tryz
attribute [-go_sem] put_ne put_same
attribute [local go_sem ↓] put_if
end L3
end Go.AM
namespace Go.AM
namespace L3
end L3
end Go.AM
namespace Go.AM
namespace L3
open Go.Proofs.Tryz
attribute [-go_sem] put_ne put_same
attribute [local go_sem ↓] put_if
def wvL (L:Lac) (o:List Int) (n:Nat):List Int:=lst (fun t=>L.C.getD (o.getD (t % o.length) 0).toNat 0) n
def wvE (L:Lac) (o:List Int) (n:Int):List Int × Int:=if lcdE L o=0 then (if 0≤n∧n≤999 then (wvL L o n.toNat,0) else ([],3)) else ([],lcdE L o)
def trdE (L:Lac) (o ring:List Int):List Int × Int :=
 if lcdE L o ≠ 0 then ([],lcdE L o) else if ring.length<2 then ([],2) else if ¬ (ring.all fun x=>decide (0≤x∧x≤(L.C.length:Int)-1))=true then ([],1) else if twB ring=true then ([],5) else
 if (xplD L o o.length && xplD L (trnL o ring) o.length)=true then (trnL o ring,0) else ([],8)
end L3
end Go.AM
namespace Go.AM
namespace L3
open Go.Proofs.Tryz
attribute [-go_sem] put_ne put_same
attribute [local go_sem ↓] put_if
def IsRing (L:Lac) (l:List Int):Prop:=∃ o1 o2 a r,(fnd L)[0]?=some o1∧(fnd L)[1]?=some o2∧a<L.C.length∧o1.getD a 0 ≠ o2.getD a 0∧0<r∧itr o1 o2 a r=a∧(∀ i,0<i→i<r→itr o1 o2 a i ≠ a)∧l=rngL o1 o2 a r
def rngE (L:Lac):Int:=if (fndE L).2=0 then (if (fnd L).length=1 then 6 else 0) else (fndE L).2
end L3
end Go.AM
namespace Go.AM
namespace L3
open Go.Proofs.Tryz
attribute [-go_sem] put_ne put_same
attribute [local go_sem ↓] put_if
end L3
end Go.AM
namespace Go.AM
namespace L3
open Go.Proofs.Tryz
attribute [-go_sem] put_ne put_same
attribute [local go_sem ↓] put_if
def moreR (L:Lac) (r:Rw3):Lac:=⟨L.T,L.C,L.R++[r]⟩
def lac0:Lac:=⟨0,[],[]⟩
def seeE (L:Lac) (r:Rw3):Lac × Int:=if chkL L=0 then (if L.R.length=12 then (lac0,9) else if chkL (moreR L r)=0 then (moreR L r,0) else (lac0,chkL (moreR L r))) else (lac0,chkL L)
end L3
end Go.AM
namespace Go.AM
namespace L3
open Go.Proofs.Tryz
attribute [-go_sem] put_ne put_same
attribute [local go_sem ↓] put_if
end L3
end Go.AM
namespace Go.AM
namespace L3
open Go.Proofs.Tryz
attribute [-go_sem] put_ne put_same
attribute [local go_sem ↓] put_if
theorem asun_ne {α β:Type} {E:Enc α} {E2:Enc β} {e e2 b b2:Nat} {H:Heap} {v w:AVal} {l:List α} {m:List β} (x:Own E e b H v l) (y:Own E2 e2 b2 H w m) (hne:e ≠ e2):Asun v w:=by
 intro r n c s k d q1 q2 q3
 rcases x with ⟨x1,_⟩|⟨i1,v1,x1,g1,_⟩
 ·rw [x1] at q1;cases q1
 ·rcases y with ⟨y1,_⟩|⟨i2,v2,y1,g2,_⟩
  ·rw [y1] at q2;cases q2
  ·rw [x1] at q1
   rw [y1] at q2
   cases q1
   cases q2
   have q3:i1=i2:=q3
   subst q3
   rw [g1] at g2
   simp [rowE] at g2
   exact hne g2.1.2
def mndE (o:List Int):List (Int × Int) × Int:=if aloL o=0 then (mndL o,0) else ([],aloL o)
theorem mndN_succ {s:MndS} {k:Nat}:mndN s (k+1)=mndS (mndN s k) (k:Int):=rfl
end L3
end Go.AM
