/-
  Looms (lines of wip/f4 E7).
-/
import Derived.Test.YtikgghhceolaeaaGreatU19
import Derived.Test.YtikgghhceolaeaaGreatU12
set_option linter.unusedSimpArgs false
set_option linter.unusedVariables false
namespace Go.AM
open Go.Proofs.Tryz
attribute [-go_sem] put_ne put_same
attribute [local go_sem ↓] put_if
namespace Flt
def thr (each ph:Int) (a:Nat):Nat→List Int
 | 0=>[]
 | n+1=>thr each ph a n++(if ((a+n:Nat):Int).tmod each=ph then [((a+n:Nat):Int)] else [])
def spotsR (p:Prt) (a n:Nat) (i:Nat):List (Int × Int):=(p.rib.take i).flatMap fun r=>(thr p.each p.ph a n).map fun t=>(r,t)
def spotsN (p:Prt) (a n:Nat):List (Int × Int):=p.rib.flatMap fun r=>(thr p.each p.ph a n).map fun t=>(r,t)
theorem thr_len {each ph:Int} {a:Nat}:∀ n,(thr each ph a n).length≤n
 | 0=>Nat.le_refl _
 | n+1=>by
  have:=thr_len (each:=each) (ph:=ph) (a:=a) n
  simp only [thr,List.length_append]
  split<;>simp<;>omega
theorem spotsR_succ {p:Prt} {a n i:Nat} (hi:i<p.rib.length):spotsR p a n (i+1)=spotsR p a n i++(thr p.each p.ph a n).map fun t=>(p.rib.getD i 0,t):=by
 unfold spotsR
 rw [List.take_add_one,List.getElem?_eq_getElem hi,List.flatMap_append,List.getD_eq_getElem?_getD,List.getElem?_eq_getElem hi]
 simp
theorem spotsR_len {p:Prt} {a n:Nat}:∀ i,i≤p.rib.length→(spotsR p a n i).length≤i * n
 | 0,_=>by simp [spotsR]
 | i+1,h=>by
  have ih:=spotsR_len (p:=p) (a:=a) (n:=n) i (by omega)
  have:=thr_len (each:=p.each) (ph:=p.ph) (a:=a) n
  rw [spotsR_succ (by omega),List.length_append,List.length_map,Nat.succ_mul]
  omega
theorem bsT {lit:Bool} {h:Heap} {a b:Int}:bsA prog lit h 39 1 [(0,.agg [.int .i64 a,.int .i64 b])]=some (.slice (some ⟨h.length,0,0⟩) 1 1,h++[rowE encT 44 [(a,b)] 0]):=by
 simp [bsA,rowOf,Fc.el39,fillA,repCells,AVal.isN,AVal.cells,splice,rowE,flat,encT]
theorem stE7 {base:Nat} {l:List Oper} {s:St} {Q:AExit→St→Prop}:WP prog raw base (.region 3 l.toArray false) s Q=WPS prog raw base (.region 3 l.toArray false) s Q:=WP_stop
attribute [local go_sem ↓ 3000] stE7
set_option maxHeartbeats 1000000 in
theorem run_spots {base:Nat} {h:Heap} {L:Lom} {pv sv:AVal} {b:Int × Int × Int} {k:Nat} {p:Prt} (hb:base≤h.length) (hP:Parts h pv L.ps) (hS:One sv) (hp:L.ps[k]?=some p) (hk:b.1=(k:Int)) (h0:0≤b.2.1) (h1:-1000≤b.2.2∧b.2.2≤1000) (h2:b.2.1≤1000) (he:1≤p.each∧p.each≤1000) (hrl:p.rib.length≤1000) :
  Ret prog raw base (.fn 35 [] []) [lomV L.R L.T pv sv,.agg (encB.cells b)] h (fun v H=>Ext h H∧Own encT 44 h.length H v (spotsN p b.2.1.toNat (b.2.2+1-b.2.1).toNat)):=by
 obtain ⟨vs,hR,hvl,h3⟩:=hP
 have hkl:k<L.ps.length:=(List.getElem?_eq_some_iff.1 hp).1
 have hx:vs[k]?=some vs[k]:=List.getElem?_eq_getElem (by omega)
 obtain ⟨q1,q2,q3,q4⟩:=h3 k _ _ hx hp
 have had:=hR.addr (P:=prog) (i:=(k:Int)) Fc.el23 Fc.ar23 (by omega) (by omega)
 rw [Int.toNat_natCast] at had
 have hld:∀ {T:Heap},loadP prog (h++T) 81 (elAdr pv encP.z k 0)=some (.agg [vs[k].v,.int .i64 p.each,.int .i64 p.ph,.bool p.wv]):=fun {T}=>by
  rw [hR.app.load Fc.ty81 hx]
  show some (AVal.agg [norm vs[k].v,.int .i64 vs[k].each,.int .i64 vs[k].ph,.bool vs[k].wv])=_
  rw [norm_one q1.one,q2,q3,q4]
 have hld2:∀ {a c d:ABlk},loadP prog (h++[a]++[c]++[d]) 81 (elAdr pv encP.z k 0)=some (.agg [vs[k].v,.int .i64 p.each,.int .i64 p.ph,.bool p.wv]):=fun {a c d}=>by rw [List.append_assoc,List.append_assoc];exact hld
 have hld1:∀ {a c:ABlk},loadP prog (h++[a]++[c]) 81 (elAdr pv encP.z k 0)=some (.agg [vs[k].v,.int .i64 p.each,.int .i64 p.ph,.bool p.wv]):=fun {a c}=>by rw [List.append_assoc];exact hld
 have ho:=hR.one
 have ho2:=q1.one
 simp only [encB]
 refine ret_raw func35 rfl (by kernel_rfl) ?_
 have hsp:=@Nat.succ_ne_zero;repeat' (first|simp (disch:=first|exact dqb|fail) only [go_sem,↓reduceIte,hsp,hk,had,hld1,hld2]|refine WP_drw ?_|refine cnd_intro (fun hsp=>?_) fun hsp=>?_)
 refine WPS_rest fun F G eF eG=>?_
 rw [WP_region]
 have kF3:=congrFun eF 3
 have kF5:=congrFun eF 5
 have kF6:=congrFun eF 6
 try simp (disch:=first|exact dqb|fail) only [go_sem,↓reduceIte] at kF3 kF5 kF6
 have gF3:=congrArg (fun X=>atP X (F 3)) eG
 have gF6:=congrArg (fun X=>atP X (F 6)) eG
 try simp only [kF3,kF6,atP_ptr] at gF3 gF6
 have lG:=congrArg List.length eG
 try simp (disch:=first|exact dqb|fail) only [go_sem,↓reduceIte] at gF3 gF6 lG
 have xG:Ext h G:=by rw [eG];repeat' first|exact Ext.refl|refine Ext.app ?_
 have qG:=q1.ext xG
 have hG:=xG.len
 clear eG lG eF had hld hld1 hld2
 obtain ⟨a,ea⟩:=Int.eq_ofNat_of_zero_le h0
 obtain ⟨n,en⟩:∃ n:Nat,(b.2.2+1-b.2.1).toNat=n:=⟨_,rfl⟩
 have ea2:b.2.1.toNat=a:=by omega
 rw [en,ea2]
 have hn:n≤2001:=by omega
 have hsp:=@Nat.succ_ne_zero;repeat' (first|simp (disch:=first|exact dqb|fail) only [go_sem,↓reduceIte,hsp,kF3,kF5,kF6,gF3,gF6,gF3,gF6]|refine WP_drw ?_|refine cnd_intro (fun hsp=>?_) fun hsp=>?_)
 refine WP_count [(5,5),(8,9),(19,44)] 0 p.rib.length (Nat.zero_le _) (fun H i fr h'=>fr 19=.int .i64 (i:Int)∧Ext G h'∧∃ v,fr 5=v∧Own encT 44 G.length h' v (spotsR p a n i)) ?_ ?_ ?_
 ·exact ⟨by (simp (disch:=first|exact dqb|fail) only [go_sem,↓reduceIte,Int.natCast_zero];first|done|rfl),.refl,.slice none 0 0,by simp (disch:=first|exact dqb|fail) only [go_sem,↓reduceIte,kF3,kF5,kF6,gF3,gF6],by simp only [spotsR,List.take_zero,List.flatMap_nil];exact Own.nil⟩
 ·rintro i fr H hi0 hi hA ⟨r19,xH,v,r5,hO⟩
  have p3:=hA 3 rfl
  have p6:=hA 6 rfl
  try simp (disch:=first|exact dqb|fail) only [go_sem,↓reduceIte,kF3,kF6] at p3 p6
  have p17:=hA 17 rfl;simp (disch:=first|exact dqb|fail) only [go_sem,↓reduceIte] at p17
  have p18:=hA 18 rfl;simp (disch:=first|exact dqb|fail) only [go_sem,↓reduceIte] at p18
  have g3:=xH.get gF3
  have g6:=xH.get gF6
  have hIH:=qG.ext xH
  have hlt:((i:Int)<(p.rib.length:Int))=True:=eq_true (by omega)
  have hii:(i:Int)<(p.rib.length:Int):=by omega
  have hsp:=@Nat.succ_ne_zero;repeat' (first|simp (disch:=first|exact dqb|fail) only [go_sem,↓reduceIte,hsp,r19,r5,p3,p6,p17,p18,hlt,g3,ea,Int.toNat_natCast]|refine WP_drw ?_|refine cnd_intro (fun hsp=>?_) fun hsp=>?_)
  refine WP_count [(5,5),(9,9),(25,43)] 0 n (Nat.zero_le _) (fun _ j fr h'=>fr 9=.int .i64 ((a+j:Nat):Int)∧Ext G h'∧∃ v,fr 5=v∧Own encT 44 G.length h' v (spotsR p a n i++(thr p.each p.ph a j).map fun t=>(p.rib.getD i 0,t))) ?_ ?_ ?_
  ·exact ⟨by (simp (disch:=first|exact dqb|fail) only [go_sem,↓reduceIte,Int.natCast_zero];first|done|rfl),xH,v,by simp (disch:=first|exact dqb|fail) only [go_sem,↓reduceIte,r5],by simpa [thr] using hO⟩
  ·rintro j fr2 H2 hj0 hj hA2 ⟨q9,xH2,v2,q5,hO2⟩
   have q3:=hA2 3 rfl
   have q6:=hA2 6 rfl
   try simp (disch:=first|exact dqb|fail) only [go_sem,↓reduceIte,p3,p6] at q3 q6
   have q8:=hA2 8 rfl;simp (disch:=first|exact dqb|fail) only [go_sem,↓reduceIte] at q8
   have g3':=xH2.get gF3
   have g6':=xH2.get gF6
   have hlt2:(((a+j:Nat):Int)≤b.2.2)=True:=eq_true (by omega)
   have hrem:binA prog .rem 3 (.int .i64 ((a+j:Nat):Int)) (.int .i64 p.each)=some (.int .i64 (((a+j:Nat):Int).tmod p.each)):=bin_rem (by omega)
   have hbd:a+j≤3001:=by omega
   by_cases ht:((a+j:Nat):Int).tmod p.each=p.ph
   ·have t1:(((a+j:Nat):Int).tmod p.each=p.ph)=True:=eq_true ht
    have hl1:=spotsR_len (p:=p) (a:=a) (n:=n) i (by omega)
    have hl2:=thr_len (each:=p.each) (ph:=p.ph) (a:=a) j
    have hl3:i * n≤1000 * 2001:=Nat.mul_le_mul (by omega) hn
    obtain ⟨v',h',ea',hO',hle,hE,h1'⟩:=(hO2.app (T:=[rowE encT 44 [(p.rib.getD i 0,((a+j:Nat):Int))] 0])).appendR (x:=.slice (some ⟨H2.length,0,0⟩) 1 1) (m:=[(p.rib.getD i 0,((a+j:Nat):Int))]) (base:=base) (t:=39) (Rows.own (get_eq rfl) rfl (by simp)) Fc.el39 encT_sc (by omega) (by have:=xH2.len;simp;omega) (by simp) (by simp;omega)
    have hsp:=@Nat.succ_ne_zero;repeat' (first|simp (disch:=first|exact dqb|fail) only [go_sem,↓reduceIte,hsp,q9,q5,q3,q6,q8,hlt2,g3',g6',hrem,t1,bsT,ea']|refine WP_drw ?_|refine cnd_intro (fun hsp=>?_) fun hsp=>?_)
    refine ⟨agq,by omega,hE G (Nat.le_refl _) (Ext.app xH2),v',rfl,?_⟩
    rw [thr,if_pos ht,List.map_append,← List.append_assoc]
    exact hO'
   ·have t1:(((a+j:Nat):Int).tmod p.each=p.ph)=False:=eq_false ht
    have hsp:=@Nat.succ_ne_zero;repeat' (first|simp (disch:=first|exact dqb|fail) only [go_sem,↓reduceIte,hsp,q9,q5,q3,q6,q8,hlt2,g3',g6',hrem,t1]|refine WP_drw ?_|refine cnd_intro (fun hsp=>?_) fun hsp=>?_)
    refine ⟨agq,by omega,xH2,v2,rfl,?_⟩
    rw [thr,if_neg ht,List.append_nil]
    exact hO2
  ·rintro fr2 H2 hA2 ⟨q9,xH2,v2,q5,hO2⟩
   have q3:=hA2 3 rfl
   have q6:=hA2 6 rfl
   try simp (disch:=first|exact dqb|fail) only [go_sem,↓reduceIte,p3,p6] at q3 q6
   have q19:=hA2 19 rfl;simp (disch:=first|exact dqb|fail) only [go_sem,↓reduceIte,r19] at q19
   have g3':=xH2.get gF3
   have hlt2:(((a+n:Nat):Int)≤b.2.2)=False:=eq_false (by omega)
   have hsp:=@Nat.succ_ne_zero;repeat' (first|simp (disch:=first|exact dqb|fail) only [go_sem,↓reduceIte,hsp,q9,q5,q3,q6,q19,hlt2,g3']|refine WP_drw ?_|refine cnd_intro (fun hsp=>?_) fun hsp=>?_)
   refine ⟨agq,by omega,xH2,v2,rfl,?_⟩
   rw [spotsR_succ hi]
   exact hO2
 ·rintro fr H hA ⟨r19,xH,v,r5,hO⟩
  have p18:=hA 18 rfl;simp (disch:=first|exact dqb|fail) only [go_sem,↓reduceIte] at p18
  have hlt:((p.rib.length:Int)<(p.rib.length:Int))=False:=eq_false (by omega)
  have hsp:=@Nat.succ_ne_zero;repeat' (first|simp (disch:=first|exact dqb|fail) only [go_sem,↓reduceIte,hsp,r19,r5,p18,hlt]|refine WP_drw ?_|refine cnd_intro (fun hsp=>?_) fun hsp=>?_)
  refine ⟨Ext.trans xG xH,?_⟩
  have:spotsR p a n p.rib.length=spotsN p a n:=by unfold spotsR spotsN;rw [List.take_length]
  rw [← this]
  exact hO.low hG
end Flt
end Go.AM
namespace Go.AM
open Go.Proofs.Tryz
namespace Flt
theorem chkM_ok {L:Lom} (h:chkM L=0):(1≤L.R∧L.R≤6)∧(1≤L.T∧L.T≤12)∧(1≤L.ps.length∧L.ps.length≤6)∧L.ss.length≤10 ∧
  (∀ p ∈ L.ps,0<p.rib.length∧(1≤p.each∧p.each≤4)∧(0≤p.ph∧p.ph≤p.each-1)∧(∀ r ∈ p.rib,0≤r∧r≤L.R-1)∧riseB p.rib=true) ∧
  (∀ s ∈ L.ss,(0≤s.rib∧s.rib≤L.R-1)∧(0≤s.lo∧s.lo≤L.T-1)∧(0≤s.hi∧s.hi≤L.T-1)∧s.lo≤s.hi):=by
 unfold chkM at h
 split at h
 ·cases h
 ·rename_i h1
  split at h
  ·cases h
  ·rename_i h2
   split at h
   ·cases h
   ·rename_i h3
    split at h
    ·cases h
    ·rename_i h4
     simp only [not_or,Classical.not_not] at h1 h2 h3 h4
     obtain ⟨a1,a2,a3,a4,a5⟩:=h1
     refine ⟨a1,a2,by omega,by omega,fun p hp=>?_,fun s hs=>?_⟩
     ·have b1:=of_decide_eq_true (List.all_eq_true.1 a5 p hp)
      have b2:=of_decide_eq_true (List.all_eq_true.1 h2 p hp)
      have b3:=List.all_eq_true.1 (List.all_eq_true.1 h3.1 p hp)
      exact ⟨b1,b2.1,b2.2,fun r hr=>of_decide_eq_true (b3 r hr),List.all_eq_true.1 h4.1 p hp⟩
     ·have b1:=of_decide_eq_true (List.all_eq_true.1 h3.2 s hs)
      have b2:=of_decide_eq_true (List.all_eq_true.1 h4.2 s hs)
      exact ⟨b1.1,b1.2.1,b1.2.2,b2⟩
theorem brkM_ok {L:Lom} {b:Int × Int × Int} (h:brkM L b=0):(0≤b.1∧b.1<L.ps.length)∧(0≤b.2.1∧b.2.1≤L.T-1)∧(0≤b.2.2∧b.2.2≤L.T-1)∧b.2.1≤b.2.2:=by
 unfold brkM at h
 split at h
 ·cases h
 ·rename_i h1
  split at h
  ·cases h
  ·rename_i h2
   simp only [not_or,Classical.not_not] at h1 h2
   omega
def splM (L:Lom) (b:Int × Int × Int):List (Int × Int) × Int :=
 if chkM L ≠ 0 then ([],chkM L) else if brkM L b ≠ 0 then ([],brkM L b) else (spotsN (L.ps.getD b.1.toNat ⟨[],1,0,false⟩) b.2.1.toNat (b.2.2+1-b.2.1).toNat,0)
set_option maxHeartbeats 1000000 in
theorem run_spoils {base:Nat} {h:Heap} {v:AVal} {L:Lom} {b:Int × Int × Int} (hb:base≤h.length) (hL:LomAt h v L) (hsm:∀ p ∈ L.ps,Small p.rib) (hpl:L.ps.length≤1048576) (hsl:L.ss.length≤1048576) (hea:∀ p ∈ L.ps,p.each≤p.each) (hrl:∀ p ∈ L.ps,p.rib.length≤1000) :
  Ret prog raw base (.fn 8 [] []) [v,.agg (encB.cells b)] h (fun w H=>Ext h H∧∃ x,w=.tuple [x,.int .i64 (splM L b).2]∧Own encT 44 h.length H x (splM L b).1):=by
 have hc:∀ {base:Nat} {a c:ABlk},callL prog raw base (.fn 33 [] []) [v] (h++[a]++[c])=some (.int .i64 (chkM L),h++[a]++[c]):=fun {base a c}=>run_check (hL.ext (.app (.app .refl))) hsm hpl hsl hea
 obtain ⟨pv,sv,rfl,hP,hS⟩:=hL
 have ho:=hP.one
 have ho2:=hS.one
 by_cases c1:chkM L=0
 ·have t1:(chkM L=0)=True:=eq_true c1
  obtain ⟨k1,k2,k3,k4,k5,k6⟩:=chkM_ok c1
  have hk:∀ {base:Nat} {a c:ABlk},callL prog raw base (.fn 34 [] []) [lomV L.R L.T pv sv,.agg (encB.cells b)] (h++[a]++[c])=some (.int .i64 (brkM L b),h++[a]++[c]):=fun {base a c}=>run_broken (hP.ext (.app (.app .refl))) ho2 hpl (by omega)
  by_cases c2:brkM L b=0
  ·have t2:(brkM L b=0)=True:=eq_true c2
   obtain ⟨j1,j2,j3,j4⟩:=brkM_ok c2
   have hlt:b.1.toNat<L.ps.length:=by omega
   have hp:L.ps[b.1.toNat]?=some (L.ps.getD b.1.toNat ⟨[],1,0,false⟩):=by rw [List.getD_eq_getElem?_getD,List.getElem?_eq_getElem hlt];rfl
   have hmem:L.ps.getD b.1.toNat ⟨[],1,0,false⟩ ∈ L.ps:=List.mem_of_getElem? hp
   have r:splM L b=(spotsN (L.ps.getD b.1.toNat ⟨[],1,0,false⟩) b.2.1.toNat (b.2.2+1-b.2.1).toNat,0):=by unfold splM;rw [if_neg (by simp [c1]),if_neg (by simp [c2])]
   rw [r]
   obtain ⟨x,H,ex,hE,hO⟩:=run_spots (base:=base) (h:=h++[⟨.cells [.int .i64 L.R,.int .i64 L.T,pv,sv] 26 false false,0⟩]++[⟨.cells [.int .i64 b.1,.int .i64 b.2.1,.int .i64 b.2.2] 38 false false,0⟩]) (L:=L) (pv:=pv) (sv:=sv) (b:=b) (k:=b.1.toNat) (by simp;omega) (hP.ext (.app (.app .refl))) ho2 hp (by omega) (by omega) (by omega) (by omega) (by have:=k5 _ hmem;omega) (hrl _ hmem)
   rw [c2] at hk
   simp only [encB] at hk ex ⊢
   refine ret_raw func8 rfl (by kernel_rfl) ?_
   have hsp:=@Nat.succ_ne_zero;repeat' (first|simp (disch:=first|exact dqb|fail) only [go_sem,hsp,hc,c1,hk,ex,eq_self]|refine WP_drw ?_|refine cnd_intro (fun hsp=>?_) fun hsp=>?_)
   exact ⟨Ext.trans (.app (.app .refl)) hE,x,rfl,hO.low (by simp only [List.length_append,List.length_cons,List.length_nil];omega)⟩
  ·have t2:(brkM L b=0)=False:=eq_false c2
   have r:splM L b=([],brkM L b):=by unfold splM;rw [if_neg (by simp [c1]),if_pos c2]
   rw [r]
   simp only [encB] at hk ⊢
   refine ret_raw func8 rfl (by kernel_rfl) ?_
   have hsp:=@Nat.succ_ne_zero;repeat' (first|simp (disch:=first|exact dqb|fail) only [go_sem,hsp,hc,c1,hk,t2,eq_self]|refine WP_drw ?_|refine cnd_intro (fun hsp=>?_) fun hsp=>?_)
   exact ⟨.app (.app .refl),_,rfl,Own.nil⟩
 ·have t1:(chkM L=0)=False:=eq_false c1
  have r:splM L b=([],chkM L):=by unfold splM;rw [if_pos c1]
  rw [r]
  simp only [encB]
  refine ret_raw func8 rfl (by kernel_rfl) ?_
  have hsp:=@Nat.succ_ne_zero;repeat' (first|simp (disch:=first|exact dqb|fail) only [go_sem,hsp,hc,t1]|refine WP_drw ?_|refine cnd_intro (fun hsp=>?_) fun hsp=>?_)
  exact ⟨.app (.app .refl),_,rfl,Own.nil⟩
end Flt
end Go.AM
namespace Go.AM
open Go.Proofs.Tryz
namespace Flt
def upto (n:Nat):List Int:=lst (fun i=>(i:Int)) n
theorem upto_mem {n:Nat} {x:Int}:x ∈ upto n ↔ 0≤x∧x<(n:Int):=by
 unfold upto lst
 simp only [List.mem_map,List.mem_range]
 constructor
 ·rintro ⟨i,hi,rfl⟩;omega
 ·intro ⟨h1,h2⟩;exact ⟨x.toNat,by omega,by omega⟩
abbrev Brk:=Int × Int × Int
def prt0:Prt:=⟨[],1,0,false⟩
def spo (L:Lom) (b:Brk):List (Int × Int):=spotsN (L.ps.getD b.1.toNat prt0) b.2.1.toNat (b.2.2+1-b.2.1).toNat
def sgt0:Sgt:=⟨0,0,0,false⟩
theorem bsB {lit:Bool} {h:Heap} {a b c:Int}:bsA prog lit h 27 1 [(0,.agg [.int .i64 a,.int .i64 b,.int .i64 c])]=some (.slice (some ⟨h.length,0,0⟩) 1 1,h++[rowE encB 38 [(a,b,c)] 0]):=by
 simp [bsA,rowOf,Fc.el27,fillA,repCells,AVal.isN,AVal.cells,splice,rowE,flat,encB]
def badI (L:Lom) (i:Int):Bool:=(L.ss.getD i.toNat sgt0).bad
theorem thr_mem {each ph:Int} {a:Nat} {t:Int}:∀ {n:Nat},t ∈ thr each ph a n ↔ (a:Int)≤t∧t<(a:Int)+n∧t.tmod each=ph
 | 0=>by simp only [thr,List.not_mem_nil,false_iff];omega
 | n+1=>by
  rw [thr,List.mem_append,thr_mem (n:=n)]
  constructor
  ·rintro (h|h)
   ·exact ⟨h.1,by omega,h.2.2⟩
   ·split at h
    ·rename_i q;rw [List.mem_singleton] at h;subst h;exact ⟨by omega,by omega,q⟩
    ·cases h
  ·rintro ⟨h1,h2,h3⟩
   by_cases e:t=((a+n:Nat):Int)
   ·subst e;exact .inr (by rw [if_pos h3];simp)
   ·exact .inl ⟨h1,by omega,h3⟩
theorem spotsN_mem {p:Prt} {a n:Nat} {x:Int × Int}:x ∈ spotsN p a n ↔ x.1 ∈ p.rib∧(a:Int)≤x.2∧x.2<(a:Int)+n∧x.2.tmod p.each=p.ph:=by
 unfold spotsN
 rw [List.mem_flatMap]
 constructor
 ·rintro ⟨r,hr,h⟩
  obtain ⟨t,ht,rfl⟩:=List.mem_map.1 h
  exact ⟨hr,thr_mem.1 ht⟩
 ·rintro ⟨h1,h2⟩
  exact ⟨x.1,h1,List.mem_map.2 ⟨x.2,thr_mem.2 h2,rfl⟩⟩
def prtOf (L:Lom) (b:Brk):Prt:=L.ps.getD b.1.toNat prt0
theorem spo_mem {L:Lom} {b:Brk} {x:Int × Int} (h0:0≤b.2.1) (h1:b.2.1≤b.2.2+1):x ∈ spo L b ↔ x.1 ∈ (prtOf L b).rib∧b.2.1≤x.2∧x.2≤b.2.2∧x.2.tmod (prtOf L b).each=(prtOf L b).ph:=by
 unfold spo
 rw [spotsN_mem]
 unfold prtOf
 constructor
 ·rintro ⟨a,b,c,d⟩;exact ⟨a,by omega,by omega,d⟩
 ·rintro ⟨a,b,c,d⟩;exact ⟨a,by omega,by omega,d⟩
def tch (L:Lom) (b:Brk) (s:Sgt):Prop:=s.rib ∈ (prtOf L b).rib∧∃ t:Int,b.2.1≤t∧t≤b.2.2∧s.lo≤t∧t≤s.hi∧t.tmod (prtOf L b).each=(prtOf L b).ph
theorem any_has {L:Lom} {b:Brk} {s:Sgt} (h0:0≤b.2.1) (h1:b.2.1≤b.2.2+1):(spo L b).any (hasB s)=true ↔ tch L b s:=by
 rw [List.any_eq_true]
 constructor
 ·rintro ⟨x,hx,h⟩
  have h:=of_decide_eq_true h
  obtain ⟨a,c,d,e⟩:=(spo_mem h0 h1).1 hx
  exact ⟨h.1 ▸ a,x.2,c,d,h.2.1,h.2.2,e⟩
 ·rintro ⟨a,t,c,d,e,f,g⟩
  exact ⟨(s.rib,t),(spo_mem h0 h1).2 ⟨a,c,d,g⟩,decide_eq_true ⟨rfl,e,f⟩⟩
def sgtI (L:Lom) (i:Int):Sgt:=L.ss.getD i.toNat sgt0
def brkOk (L:Lom) (b:Brk):Prop:=0≤b.1∧b.1<(L.ps.length:Int)∧0≤b.2.1∧b.2.1≤b.2.2∧b.2.2<L.T
def truOk (L:Lom) (t:List Brk):Prop:=t.Pairwise (fun a b=>a.1<b.1)∧∀ b ∈ t,brkOk L b
theorem getD_at {α:Type} {l:List α} {d:α} {i:Nat} (h:i<l.length):l.getD i d=l[i]:=by rw [List.getD_eq_getElem?_getD,List.getElem?_eq_getElem h];rfl
def bdT (L:Lom) (t:List Brk) (s:Sgt):Prop:=∃ b ∈ t,tch L b s
def Xp (L:Lom) (o:List Int) (t:List Brk):Prop:=truOk L t∧∀ i ∈ o,(bdT L t (sgtI L i) ↔ badI L i=true)
abbrev allI (L:Lom):List Int:=upto L.ss.length
def XpA (L:Lom) (t:List Brk):Prop:=Xp L (allI L) t
theorem pigeon {α β:Type} [DecidableEq β] {R:α→β→Prop}:∀ {l:List α} {t:List β},l.Nodup→(∀ a ∈ l,∃ b ∈ t,R a b)→(∀ a ∈ l,∀ c ∈ l,∀ b ∈ t,R a b→R c b→a=c)→l.length≤t.length
 | [],t,_,_,_=>by simp
 | a :: l,t,hn,h1,h2=>by
  obtain ⟨b,hb,hab⟩:=h1 a (by simp)
  rw [List.nodup_cons] at hn
  have:=pigeon (R:=R) (l:=l) (t:=t.erase b) hn.2 (fun c hc=>by
   obtain ⟨d,hd,hcd⟩:=h1 c (List.mem_cons_of_mem _ hc)
   have hne:d ≠ b:=fun e=>by
    subst e
    have:=h2 a (by simp) c (List.mem_cons_of_mem _ hc) d hd hab hcd
    subst this
    exact hn.1 hc
   exact ⟨d,(List.mem_erase_of_ne hne).2 hd,hcd⟩) (fun c hc d hd b' hb'=>h2 c (List.mem_cons_of_mem _ hc) d (List.mem_cons_of_mem _ hd) b' (List.mem_of_mem_erase hb'))
  rw [List.length_erase_of_mem hb] at this
  have hp:0<t.length:=List.length_pos_of_mem hb
  simp only [List.length_cons];omega
theorem bsS1 {lit:Bool} {H:Heap} {s:Sgt}:bsA prog lit H 24 1 [(0,.agg (encS.cells s))]=some (.slice (some ⟨H.length,0,0⟩) 1 1,H++[rowE encS 86 [s] 0]):=by
 simp [bsA,rowOf,Fc.el24,fillA,repCells,AVal.isN,AVal.cells,splice,rowE,flat,encS]
theorem run_sgt {base:Nat} {h:Heap} {r lo hi:Int} {b:Bool}:callL prog raw base (.fn 31 [] []) [.int .i64 r,.int .i64 lo,.int .i64 hi,.bool b] h=some (.agg (encS.cells ⟨r,lo,hi,b⟩),h):=by
 refine callL_run func31 rfl rfl ?_
 have hsp:=@Nat.succ_ne_zero;repeat' (first|simp (disch:=first|exact dqb|fail) only [go_sem,hsp]|refine WP_drw ?_|refine cnd_intro (fun hsp=>?_) fun hsp=>?_)
 exact fin_pl rfl rfl (.app .refl)
abbrev lmB (R T:Int) (pv sv:AVal):ABlk:=⟨.cells [.int .i64 R,.int .i64 T,pv,sv] 26 false false,0⟩
end Flt
end Go.AM
namespace Go.AM
open Go.Proofs.Tryz
attribute [-go_sem] put_ne put_same
attribute [local go_sem ↓] put_if
namespace Flt
def splB (L:Lom) (b:Brk) (s:Sgt):Bool:=(spo L b).any (hasB s)
theorem splB_iff {L:Lom} {b:Brk} {s:Sgt} (hb:brkOk L b):splB L b s=true ↔ tch L b s:=by
 obtain ⟨_,_,h3,h4,_⟩:=hb
 exact any_has h3 (by omega)
theorem Parts.at {h:Heap} {pv:AVal} {ps:List Prt} {k:Nat} {p:Prt} (hP:Parts h pv ps) (hp:ps[k]?=some p):∃ a r a3,indexAddrA prog 23 pv (.int .i64 (k:Int))=some a∧(∀ H,Ext h H→loadP prog H 81 a=some (.agg [r,.int .i64 p.each,.int .i64 p.ph,.bool p.wv]))∧Ints h r p.rib∧fieldAddrA prog 81 a 3=some a3∧(∀ H,Ext h H→loadP prog H 4 a3=some (.bool p.wv)):=by
 obtain ⟨vs,hR,hvl,h3⟩:=hP
 have hkl:k<ps.length:=(List.getElem?_eq_some_iff.1 hp).1
 have hx:vs[k]?=some vs[k]:=List.getElem?_eq_getElem (by omega)
 obtain ⟨q1,q2,q3,q4⟩:=h3 k _ _ hx hp
 have had:=hR.addr (P:=prog) (i:=(k:Int)) Fc.el23 Fc.ar23 (by omega) (by omega)
 rw [Int.toNat_natCast] at had
 refine ⟨_,vs[k].v,_,had,fun H e=>?_,q1,elAdr_field (P:=prog) (i:=k) (o:=0) (off:=3) (q:=false) (n:=1) hR (by omega) (by kernel_rfl) (by decide),fun H e=>?_⟩
 ·rw [(hR.ext e).load Fc.ty81 hx]
  show some (AVal.agg [norm vs[k].v,.int .i64 vs[k].each,.int .i64 vs[k].ph,.bool vs[k].wv])=_
  rw [norm_one q1.one,q2,q3,q4]
 ·rw [(hR.ext e).cell Fc.ty4 hx (o:=3) (a:=.bool p.wv) (by simp [encP,q4])]
set_option maxHeartbeats 1000000 in
theorem run_spoils4 {base:Nat} {h:Heap} {L:Lom} {pv sv:AVal} {b:Brk} {s:Sgt} (hP:Parts h pv L.ps) (hS:One sv) (hb:brkOk L b) (hT:L.T≤12) (hpl:L.ps.length≤6) (hs:0≤s.lo∧s.lo≤1000∧-1000≤s.hi∧s.hi≤1000) (he:∀ p ∈ L.ps,1≤p.each∧p.each≤1000) :
  callL prog raw base (.fn 92 [] []) [lomV L.R L.T pv sv,.agg (encB.cells b),.agg (encS.cells s)] h=some (.bool (splB L b s),h):=by
 obtain ⟨b1,b2,b3,b4,b5⟩:=id hb
 obtain ⟨k,ek⟩:=Int.eq_ofNat_of_zero_le b1
 have hk:k<L.ps.length:=by omega
 have hp:L.ps[k]?=some L.ps[k]:=List.getElem?_eq_getElem hk
 obtain ⟨a,r,a3,had,hld,hI,_,_⟩:=hP.at hp
 obtain ⟨e1,e2⟩:=he _ (List.getElem_mem hk)
 have hl1:∀ {T:Heap},loadP prog (h++T) 81 a=some (.agg [r,.int .i64 L.ps[k].each,.int .i64 L.ps[k].ph,.bool L.ps[k].wv]):=fun {T}=>hld _ (.app .refl)
 have hl4:∀ {a1 a2 a3:ABlk},loadP prog (h++[a1]++[a2]++[a3]) 81 a=some (.agg [r,.int .i64 L.ps[k].each,.int .i64 L.ps[k].ph,.bool L.ps[k].wv]):=fun {a1 a2 a3}=>hld _ (by repeat' first|exact Ext.refl|refine Ext.app ?_)
 have hp1:=hP.one
 have hr1:=hI.one
 simp only [encB,encS]
 refine callL_run func92 rfl rfl ?_
 by_cases c1:s.rib ∈ L.ps[k].rib
 ·have t1:(s.rib ∈ L.ps[k].rib)=True:=eq_true c1
  have hsp:=@Nat.succ_ne_zero;repeat' (first|simp (disch:=first|exact dqb|fail) only [go_sem,↓reduceIte,hsp,ek,had,hl4,run_contains,t1,decide_true]|refine WP_drw ?_|refine cnd_intro (fun hsp=>?_) fun hsp=>?_)
  obtain ⟨N,eN⟩:∃ N:Nat,N=(min b.2.2 s.hi+1-max b.2.1 s.lo).toNat:=⟨_,rfl⟩
  refine WP_count [(6,6),(8,43)] 0 N (Nat.zero_le _) (fun H0 n fr h'=>fr 8=.int .i64 (max b.2.1 s.lo+(n:Int))∧h'=H0∧∀ j:Nat,j<n→(max b.2.1 s.lo+(j:Int)).tmod L.ps[k].each ≠ L.ps[k].ph) ?_ ?_ ?_
  ·exact ⟨by (simp (disch:=first|exact dqb|fail) only [go_sem,↓reduceIte,Int.natCast_zero,Int.add_zero];first|done|rfl),rfl,fun j hj=>by omega⟩
  ·rintro n fr H hi0 hi hA ⟨r8,rfl,hno⟩
   have p4:=hA 4 rfl
   have p5:=hA 5 rfl
   have p7:=hA 7 rfl
   try simp (disch:=first|exact dqb|fail) only [go_sem,↓reduceIte] at p4 p5 p7
   have hlt:(max b.2.1 s.lo+(n:Int)≤min b.2.2 s.hi)=True:=eq_true (by omega)
   have hrem:binA prog .rem 3 (.int .i64 (max b.2.1 s.lo+(n:Int))) (.int .i64 L.ps[k].each)=some (.int .i64 ((max b.2.1 s.lo+(n:Int)).tmod L.ps[k].each)):=bin_rem (by omega)
   by_cases c2:(max b.2.1 s.lo+(n:Int)).tmod L.ps[k].each=L.ps[k].ph
   ·have t2:((max b.2.1 s.lo+(n:Int)).tmod L.ps[k].each=L.ps[k].ph)=True:=eq_true c2
    have hsp:=@Nat.succ_ne_zero;repeat' (first|simp (disch:=first|exact dqb|fail) only [go_sem,↓reduceIte,hsp,r8,p4,p5,p7,hlt,hrem,t2]|refine WP_drw ?_|refine cnd_intro (fun hsp=>?_) fun hsp=>?_)
    refine fB ?_
    refine ((splB_iff hb).2 ⟨?_,max b.2.1 s.lo+(n:Int),by omega,by omega,by omega,by omega,?_⟩).symm<;>unfold prtOf<;>rw [ek,Int.toNat_natCast,getD_at hk]
    ·exact c1
    ·exact c2
   ·have t2:((max b.2.1 s.lo+(n:Int)).tmod L.ps[k].each=L.ps[k].ph)=False:=eq_false c2
    have hsp:=@Nat.succ_ne_zero;repeat' (first|simp (disch:=first|exact dqb|fail) only [go_sem,↓reduceIte,hsp,r8,p4,p5,p7,hlt,hrem,t2]|refine WP_drw ?_|refine cnd_intro (fun hsp=>?_) fun hsp=>?_)
    refine ⟨agq,by omega,fun j hj=>?_⟩
    by_cases e:j=n
    ·subst e;exact c2
    ·exact hno j (by omega)
  ·rintro fr H hA ⟨r8,rfl,hno⟩
   have p4:=hA 4 rfl
   have p5:=hA 5 rfl
   have p7:=hA 7 rfl
   try simp (disch:=first|exact dqb|fail) only [go_sem,↓reduceIte] at p4 p5 p7
   have hlt:(max b.2.1 s.lo+(N:Int)≤min b.2.2 s.hi)=False:=eq_false (by omega)
   have hsp:=@Nat.succ_ne_zero;repeat' (first|simp (disch:=first|exact dqb|fail) only [go_sem,↓reduceIte,hsp,r8,p4,p5,p7,hlt]|refine WP_drw ?_|refine cnd_intro (fun hsp=>?_) fun hsp=>?_)
   refine fB ?_
   symm
   refine Bool.eq_false_iff.2 fun q=>?_
   obtain ⟨_,t,q1,q2,q3,q4,q5⟩:=(splB_iff hb).1 q
   unfold prtOf at q5
   rw [ek,Int.toNat_natCast,getD_at hk] at q5
   refine hno (t-max b.2.1 s.lo).toNat (by omega) ?_
   rw [show max b.2.1 s.lo+(((t-max b.2.1 s.lo).toNat:Nat):Int)=t by omega]
   exact q5
 ·have t1:(s.rib ∈ L.ps[k].rib)=False:=eq_false c1
  have hsp:=@Nat.succ_ne_zero;repeat' (first|simp (disch:=first|exact dqb|fail) only [go_sem,↓reduceIte,hsp,ek,had,hl4,run_contains,t1,decide_false]|refine WP_drw ?_|refine cnd_intro (fun hsp=>?_) fun hsp=>?_)
  refine fB ?_
  symm
  refine Bool.eq_false_iff.2 fun q=>c1 ?_
  have:=((splB_iff hb).1 q).1
  unfold prtOf at this
  rw [ek,Int.toNat_natCast,getD_at hk] at this
  exact this
def sgOk (s:Sgt):Prop:=0≤s.lo∧s.lo≤1000∧-1000≤s.hi∧s.hi≤1000
theorem run_spoilsC {base:Nat} {h:Heap} {L:Lom} {pv sv:AVal} {b:Brk} {s:Sgt} (hP:Parts h pv L.ps) (hS:One sv) (hc:chkM L=0) (hb:brkOk L b) (hs:sgOk s) :
  callL prog raw base (.fn 92 [] []) [lomV L.R L.T pv sv,.agg (encB.cells b),.agg (encS.cells s)] h=some (.bool (splB L b s),h):=by
 obtain ⟨k1,k2,k3,k4,k5,k6⟩:=chkM_ok hc
 exact run_spoils4 hP hS hb (by omega) (by omega) hs (fun p hp=>by have:=k5 p hp;omega)
def lmB' (L:Lom) (pv sv:AVal):ABlk:=⟨.cells [.int .i64 L.R,.int .i64 L.T,pv,sv] 26 false false,0⟩
def sgB' (s:Sgt):ABlk:=⟨.cells [.int .i64 s.rib,.int .i64 s.lo,.int .i64 s.hi,.bool s.bad] 86 false false,0⟩
theorem run_bad1 {base id id2:Nat} {h:Heap} {L:Lom} {pv sv:AVal} {b:Brk} {s:Sgt} (g1:h[id]?=some (lmB' L pv sv)) (g2:h[id2]?=some (sgB' s)) (hP:Parts h pv L.ps) (hS:One sv) (hc:chkM L=0) (hb:brkOk L b) (hs:sgOk s) :
  callL prog raw base (.fn 91 [] [.ptr (some ⟨id,0,0⟩),.ptr (some ⟨id2,0,0⟩)]) [.agg (encB.cells b)] h=some (.bool (splB L b s),h):=by
 have e:∀ {base:Nat} {a:ABlk},callL prog raw base (.fn 92 [] []) [lomV L.R L.T pv sv,.agg (encB.cells b),.agg (encS.cells s)] (h++[a])=some (.bool (splB L b s),h++[a]):=fun {base a}=>run_spoilsC (hP.ext (.app .refl)) hS hc hb hs
 rw [lmB'] at g1
 rw [sgB'] at g2
 have g1':∀ {a:ABlk},(h++[a])[id]?=_:=fun {a}=>get_app g1
 have g2':∀ {a:ABlk},(h++[a])[id2]?=_:=fun {a}=>get_app g2
 simp only [encB,encS] at e ⊢
 refine callL_run func91 rfl rfl ?_
 have hsp:=@Nat.succ_ne_zero;repeat' (first|simp (disch:=first|exact dqb|fail) only [go_sem,↓reduceIte,hsp,g1',g2',e]|refine WP_drw ?_|refine cnd_intro (fun hsp=>?_) fun hsp=>?_)
 exact fB rfl
def badB (L:Lom) (t:List Brk) (s:Sgt):Bool:=t.any fun b=>splB L b s
theorem badB_iff {L:Lom} {t:List Brk} {s:Sgt} (ht:∀ b ∈ t,brkOk L b):badB L t s=true ↔ bdT L t s:=by
 unfold badB bdT
 rw [List.any_eq_true]
 exact exists_congr fun b=>and_congr_right fun hb=>splB_iff (ht b hb)
theorem run_bad {base:Nat} {h:Heap} {L:Lom} {pv sv tv:AVal} {t:List Brk} {s:Sgt} (hP:Parts h pv L.ps) (hS:One sv) (hc:chkM L=0) (hT:Rows encB h tv t) (ht:∀ b ∈ t,brkOk L b) (hs:sgOk s) :
  callL prog raw base (.fn 32 [] []) [lomV L.R L.T pv sv,tv,.agg (encS.cells s)] h=some (.bool (badB L t s),h):=by
 have hp1:=hP.one
 have ht1:=hT.one
 have e:=fun base=>anyF_B (base:=base) (h:=h++[lmB' L pv sv]++[sgB' s]) (g:=.fn 91 [] [.ptr (some ⟨h.length,0,0⟩),.ptr (some ⟨h.length+1,0,0⟩)]) (fun b=>splB L b s) (hT.ext (.app (.app .refl))) (fun base b hb=>run_bad1 (by simp) (by simp) (hP.ext (.app (.app .refl))) hS hc (ht b hb) hs)
 unfold badB
 simp only [encS,lmB',sgB'] at e ⊢
 refine callL_run func32 rfl rfl ?_
 have hsp:=@Nat.succ_ne_zero;repeat' (first|simp (disch:=first|exact dqb|fail) only [go_sem,↓reduceIte,hsp,e]|refine WP_drw ?_|refine cnd_intro (fun hsp=>?_) fun hsp=>?_)
 exact fB rfl
theorem sgtI_mem {L:Lom} {i:Int} (h:0≤i∧i<(L.ss.length:Int)):sgtI L i ∈ L.ss:=by
 unfold sgtI
 rw [getD_at (show i.toNat<L.ss.length by omega)]
 exact List.getElem_mem _
end Flt
end Go.AM
namespace Go.AM
open Go.Proofs.Tryz
theorem dqd {p:Prop} (h:p:=by first|exact Nat.ne_of_beq_eq_false rfl|assumption|(apply asOne;(first|exact One.int|exact One.bool|assumption|exact Ints.one (by assumption)|exact Rows.one (by assumption)|exact Own.one (by assumption)|exact One.lit ⟨rfl,rfl,rfl⟩))|(apply asSp;(repeat first|assumption|apply SpAt.set|(refine SpAt.new ?_ (by (first|rfl|(simp only [List.length_append,List.length_cons,List.length_nil,List.length_set];done)|(simp only [List.length_append,List.length_cons,List.length_nil,List.length_set];omega))))|apply SpAt.app|apply Bytes.app);done)|(apply asBytes;(repeat first|assumption|apply Bytes.app);done)|(apply asInts;(repeat first|assumption|exact ints_nil|apply Ints.app);done)|(apply asRows;(repeat first|assumption|exact Rows.nil|apply Rows.app);done)|(apply asScal;(first|apply allS1|apply allS2|apply allS3|apply allS4)<;>(first|exact One.int|exact One.bool|assumption|exact Ints.one (by assumption)|exact Rows.one (by assumption)|exact Own.one (by assumption)|exact One.lit ⟨rfl,rfl,rfl⟩))|exact litT rfl|exact litF rfl|omega|(simp only [List.length_append,List.length_cons,List.length_nil,List.length_set,List.length_reverse];first|done|omega)|fail):p:=h
attribute [-go_sem] put_ne put_same
attribute [local go_sem ↓] put_if
namespace Flt
section
variable {h H H':Heap} {id k0 k k':Nat} {v:AVal} {silk:List Int}
end
theorem stE34 {base:Nat} {l:List Oper} {s:St} {Q:AExit→St→Prop}:WP prog raw base (.region 7 l.toArray true) s Q=WPS prog raw base (.region 7 l.toArray true) s Q:=WP_stop
attribute [local go_sem ↓ 3000] stE34
set_option maxHeartbeats 1000000 in
theorem run_tried {base id k0:Nat} {h:Heap} {v:AVal} {silk:List Int} {L:Lom} {pv sv:AVal} (hb:base≤h.length) (hS:SpAt h id v silk k0) (hk:k0≤900000) (hP:Parts h pv L.ps) (hsv:One sv) (hc:chkM L=0) :
  Ret prog raw base (.fn 30 [] []) [.ptr (some ⟨id,0,0⟩),lomV L.R L.T pv sv] h (fun w H=>∃ t k',(k0≤k'∧k'≤k0+18)∧SpE h id v silk k' H∧Own encB 38 h.length H w t∧truOk L t):=by
 obtain ⟨k1,k2,k3,k4,k5,k6⟩:=chkM_ok hc
 have hid:=lt_of_get hS.1
 have hp1:=hP.one
 have hlP:∀ {T:Heap},lenOpA prog (h++T) 23 pv=some (.int .i64 (L.ps.length:Int)):=fun {T}=>(hP.ext (.app .refl)).len
 refine ret_raw func30 rfl (by kernel_rfl) ?_
 have hsp:=@Nat.succ_ne_zero;repeat' (first|simp (disch:=first|exact dqd|fail) only [go_sem,↓reduceIte,hsp,hlP]|refine WP_drw ?_|refine cnd_intro (fun hsp=>?_) fun hsp=>?_)
 refine WP_count [(5,7),(11,35)] 0 L.ps.length (Nat.zero_le _) (fun H0 i fr h'=>fr 11=.int .i64 (i:Int)∧∃ t k',(k0≤k'∧k'≤k0+3 * i)∧SpE H0 id v silk k' h'∧∃ w,fr 5=w∧Own encB 38 (h.length+1) h' w t∧truOk L t∧(∀ b ∈ t,b.1<(i:Int))∧t.length≤i) ?_ ?_ ?_
 ·exact ⟨by (simp (disch:=first|exact dqd|fail) only [go_sem,↓reduceIte,Int.natCast_zero];first|done|rfl),[],k0,by omega,SpE.refl hS.app,_,rfl,by simp (disch:=first|exact dqd|fail) only [go_sem,↓reduceIte];exact Own.nil,⟨.nil,fun b hb=>by simp at hb⟩,fun b hb=>by simp at hb,Nat.le_refl _⟩
 ·rintro i fr H hi0 hi hA ⟨r11,t,k',hk',xH,w,r5,hO,hT,hlt5,htl⟩
  have p0:=hA 0 rfl
  have p3:=hA 3 rfl
  have p4:=hA 4 rfl
  have p10:=hA 10 rfl
  try simp (disch:=first|exact dqd|fail) only [go_sem,↓reduceIte] at p0 p3 p4 p10
  have hlt:((i:Int)<(L.ps.length:Int))=True:=eq_true (by omega)
  have hSp:=xH.at hS.app
  have hkk:k'≤1000000:=by omega
  have hxl:=xH.len
  simp only [List.length_append,List.length_cons,List.length_nil] at hxl
  have g0:H[h.length]?=some ⟨.cells [.int .i64 L.R,.int .i64 L.T,pv,sv] 26 false false,0⟩:=xH.get (by omega) (by simp)
  have hoid:id<(h++[(⟨.cells [.int .i64 L.R,.int .i64 L.T,pv,sv] 26 false false,0⟩:ABlk)]).length:=by simp;omega
  by_cases c1:up silk k' 1=0
  ·have t1:(up silk k' 1=0)=True:=eq_true c1
   have e1:up silk k' (2-1)=up silk k' 1:=rfl
   have g0':∀ {b:ABlk},(H.set id b)[h.length]?=some ⟨.cells [.int .i64 L.R,.int .i64 L.T,pv,sv] 26 false false,0⟩:=fun {b}=>by rw [List.getElem?_set_ne (by omega)];exact g0
   have hsp:=@Nat.succ_ne_zero;repeat' (first|simp (disch:=first|exact dqd|fail) only [go_sem,↓reduceIte,hsp,r11,r5,p0,p3,p4,p10,hlt,run_once,run_upto,e1,t1,decide_true,g0']|refine WP_drw ?_|refine cnd_intro (fun hsp=>?_) fun hsp=>?_)
   have u1:=up_bd (silk:=silk) (k:=k'+1) (n:=L.T-1) (by omega)
   have u2:=up_bd (silk:=silk) (k:=k'+1+1) (n:=4) (by omega)
   obtain ⟨nb,enb⟩:∃ nb:Brk,nb=((i:Int),up silk (k'+1) (L.T-1),min (L.T-1) (up silk (k'+1) (L.T-1)+up silk (k'+1+1) 4)):=⟨_,rfl⟩
   have hbk:brkOk L nb:=by rw [enb];exact ⟨by simp only;omega,by simp only;omega,by simp only;omega,by simp only;omega,by simp only;omega⟩
   have hRw:∀ {A:Heap},Rows encB (A++[rowE encB 38 [nb] 0]) (.slice (some ⟨A.length,0,0⟩) 1 1) [nb]:=fun {A}=>Rows.own (get_eq rfl) rfl (by simp)
   have x3:=(xH.step (k':=k'+1+1+1) hoid)
   obtain ⟨v',h',ea,hO',hle,hE,h1'⟩:=((hO.set (i:=id) (k:=spB v silk (k'+1+1+1)) (by omega)).app (T:=[rowE encB 38 [nb] 0])).appendR (base:=base) (t:=27) hRw Fc.el27 encB_sc (by omega) (by simp;omega) (by simp) (by simp;omega)
   have bsN:∀ {lit:Bool} {A:Heap},bsA prog lit A 27 1 [(0,.agg [.int .i64 (i:Int),.int .i64 (up silk (k'+1) (L.T-1)),.int .i64 (min (L.T-1) (up silk (k'+1) (L.T-1)+up silk (k'+1+1) 4))])]=some (.slice (some ⟨A.length,0,0⟩) 1 1,A++[rowE encB 38 [nb] 0]):=fun {lit A}=>by rw [enb];exact bsB
   rw [List.length_set] at ea
   refine WPS_go ?_
   refine WP_wild [⟨4,3,24,⟨h.length,0,1⟩,.int .i64 L.T,13⟩] (by kernel_rfl) (by kernel_rfl) (by kernel_rfl) ⟨refsLow_int,trivial⟩ fun K hK=>?_
   iterate 15
    rw [TRS_cons]
    refine ⟨by first|(simp (disch:=first|exact dqd|fail) only [go_sem,↓reduceIte,run_upto,r11,r5,p0,p3,p4,p10,g0',bsN,ea,ldsQ_cons,ldsQ_nil,grdQ_cons,grdQ_nil,if_true,Nat.reduceLeDiff];done)|exact trivial,?_⟩
    simp (disch:=first|exact dqd|fail) only [go_sem,↓reduceIte,run_upto,r11,r5,p0,p3,p4,p10,g0',bsN,ea]
   rw [TRS_nil]
   refine ⟨by first|(simp (disch:=first|exact dqd|fail) only [go_sem,↓reduceIte,run_upto,r11,r5,p0,p3,p4,p10,g0',bsN,ea,ldsQ_cons,ldsQ_nil,grdQ_cons,grdQ_nil,if_true,Nat.reduceLeDiff];done)|exact trivial,?_⟩
   subst hK
   have hsp:=@Nat.succ_ne_zero;repeat' (first|simp (disch:=first|exact dqd|fail) only [go_sem,↓reduceIte,hsp,run_upto,r11,r5,p0,p3,p4,p10,g0',bsN,ea]|refine WP_drw ?_|refine cnd_intro (fun hsp=>?_) fun hsp=>?_)
   refine ⟨agq,by omega,t++[nb],k'+1+1+1,by omega,hE _ (by simp) (x3.trans (.app .refl)),v',rfl,hO',⟨List.pairwise_append.2 ⟨hT.1,List.pairwise_singleton _ _,fun a ha b hb=>?_⟩,fun b hb=>?_⟩,fun b hb=>?_,by simp;omega⟩
   ·rw [List.mem_singleton] at hb
    rw [hb,enb]
    exact hlt5 a ha
   ·rcases List.mem_append.1 hb with hb|hb
    ·exact hT.2 b hb
    ·rw [List.mem_singleton] at hb;rw [hb];exact hbk
   ·rcases List.mem_append.1 hb with hb|hb
    ·have:=hlt5 b hb;omega
    ·rw [List.mem_singleton] at hb;rw [hb,enb];simp only;omega
  ·have t1:(up silk k' 1=0)=False:=eq_false c1
   have e1:up silk k' (2-1)=up silk k' 1:=rfl
   have hsp:=@Nat.succ_ne_zero;repeat' (first|simp (disch:=first|exact dqd|fail) only [go_sem,↓reduceIte,hsp,r11,r5,p0,p3,p4,p10,hlt,run_once,e1,t1,decide_false]|refine WP_drw ?_|refine cnd_intro (fun hsp=>?_) fun hsp=>?_)
   exact ⟨agq,by omega,t,k'+1,by omega,xH.step hoid,w,rfl,hO.set (by omega),hT,fun b hb=>by have:=hlt5 b hb;omega,by omega⟩
 ·rintro fr H hA ⟨r11,t,k',hk',xH,w,r5,hO,hT,hlt5,htl⟩
  have p0:=hA 0 rfl
  have p3:=hA 3 rfl
  have p4:=hA 4 rfl
  have p10:=hA 10 rfl
  try simp (disch:=first|exact dqd|fail) only [go_sem,↓reduceIte] at p0 p3 p4 p10
  have hlt:((L.ps.length:Int)<(L.ps.length:Int))=False:=eq_false (by omega)
  have hsp:=@Nat.succ_ne_zero;repeat' (first|simp (disch:=first|exact dqd|fail) only [go_sem,↓reduceIte,hsp,r11,r5,p0,p3,p4,p10,hlt]|refine WP_drw ?_|refine cnd_intro (fun hsp=>?_) fun hsp=>?_)
  exact ⟨t,k',by omega,xH.low hid,hO.low (by omega),hT⟩
end Flt
end Go.AM
namespace Go.AM
open Go.Proofs.Tryz
namespace Flt
section
variable {α β:Type} {E:Enc α} {E2:Enc β} {e e2 b b2:Nat} {h h':Heap}
end
def OwnP (b:Nat) (H:Heap) (pv:AVal) (ps:List Prt):Prop:=∃ vs:List PrtV,Own encP 81 b H pv vs∧vs.length=ps.length∧∀ (i:Nat) x p,vs[i]?=some x→ps[i]?=some p→Own encI 3 b H x.v p.rib∧x.each=p.each∧x.ph=p.ph∧x.wv=p.wv
section
variable {b:Nat} {H H':Heap} {pv:AVal} {ps:List Prt}
theorem OwnP.nil:OwnP b H (.slice none 0 0) []:=⟨[],.nil,rfl,fun i x p h=>by simp at h⟩
theorem OwnP.mapH (x:OwnP b H pv ps) (f1:∀ v l,Own encP 81 b H v l→Own encP 81 b H' v l) (f2:∀ v l,Own encI 3 b H v l→Own encI 3 b H' v l):OwnP b H' pv ps:=by
 obtain ⟨vs,h1,h2,h3⟩:=x
 exact ⟨vs,f1 _ _ h1,h2,fun i x p a c=>⟨f2 _ _ (h3 i x p a c).1,(h3 i x p a c).2⟩⟩
theorem OwnP.ext (x:OwnP b H pv ps) (e:Ext H H'):OwnP b H' pv ps:=x.mapH (fun _ _ y=>y.ext e) fun _ _ y=>y.ext e
theorem OwnP.setBox {k:ABlk} {a:Nat} {c:List AVal} {t:TypeId} {ro:Bool} {u:Nat} (x:OwnP b H pv ps) (hg:H[a]?=some ⟨.cells c t false ro,u⟩):OwnP b (H.set a k) pv ps:=x.mapH (fun _ _ y=>y.setBox hg) fun _ _ y=>y.setBox hg
theorem OwnP.low {b':Nat} (x:OwnP b H pv ps) (hb:b'≤b):OwnP b' H pv ps:=by
 obtain ⟨vs,h1,h2,h3⟩:=x
 exact ⟨vs,h1.low hb,h2,fun i x p a c=>⟨(h3 i x p a c).1.low hb,(h3 i x p a c).2⟩⟩
theorem OwnP.one (x:OwnP b H pv ps):One pv:=by obtain ⟨vs,h1,_⟩:=x;exact h1.one
theorem OwnP.parts (x:OwnP b H pv ps) (hl:ps.length<2 ^ 60) (hs:∀ p ∈ ps,Small p.rib):Parts H pv ps:=by
 obtain ⟨vs,h1,h2,h3⟩:=x
 exact ⟨vs,h1.rows (by omega),h2,fun i x p a c=>⟨own_ints (h3 i x p a c).1 (hs p (List.mem_of_getElem? c)),(h3 i x p a c).2⟩⟩
theorem OwnP.snoc {h:Heap} {base:Nat} {w:AVal} {p:Prt} (x:OwnP b h pv ps) (hw:Own encI 3 b h w p.rib) (hb:base≤b) (hbh:b≤h.length) (hl:ps.length≤1000) (hg:h[h.length-1]?=some (rowE encP 81 [⟨w,p.each,p.ph,p.wv⟩] 0)) :
  ∃ v' h',appendA prog base h 23 pv (.slice (some ⟨h.length-1,0,0⟩) 1 1)=some (v',h')∧OwnP b h' v' (ps++[p])∧h.length≤h'.length∧(∀ G,G.length≤b→Ext G h→Ext G h')∧One v'∧KeepO encP 81 h h':=by
 obtain ⟨vs,h1,h2,h3⟩:=x
 obtain ⟨v',h',a1,a2,a3,a4,a5,a6⟩:=h1.appendRX (P:=prog) (base:=base) (t:=23) (Rows.own hg rfl (by simp)) Fc.el23 encP_sc hb hbh (by simp) (by simp;omega)
 refine ⟨v',h',a1,⟨_,a2,by simp [h2],fun i y q g1 g2=>?_⟩,a3,a4,a5,a6⟩
 have kp:KeepO encP 81 h h':=a6
 by_cases hi:i<vs.length
 ·rw [List.getElem?_append_left hi] at g1
  rw [List.getElem?_append_left (by omega)] at g2
  exact ⟨kp.own (h3 i y q g1 g2).1 (by decide),(h3 i y q g1 g2).2⟩
 ·rw [List.getElem?_append_right (by omega)] at g1
  rw [List.getElem?_append_right (by omega)] at g2
  have e0:i-vs.length=0:=by
   have:=(List.getElem?_eq_some_iff.1 g1).1
   simp at this;omega
  rw [e0] at g1
  rw [show i-ps.length=0 by omega] at g2
  cases g1;cases g2
  exact ⟨kp.own hw (by decide),rfl,rfl,rfl⟩
end
theorem chkM_of {L:Lom} (h1:1≤L.R∧L.R≤6) (h2:1≤L.T∧L.T≤12) (h3:1≤L.ps.length∧L.ps.length≤6) (h4:L.ss.length≤10)
  (h5:∀ p ∈ L.ps,0<p.rib.length∧(1≤p.each∧p.each≤4)∧(0≤p.ph∧p.ph≤p.each-1)∧(∀ r ∈ p.rib,0≤r∧r≤L.R-1)∧riseB p.rib=true)
  (h6:∀ s ∈ L.ss,(0≤s.rib∧s.rib≤L.R-1)∧(0≤s.lo∧s.lo≤L.T-1)∧(0≤s.hi∧s.hi≤L.T-1)∧s.lo≤s.hi):chkM L=0:=by
 unfold chkM
 rw [if_neg,if_neg,if_neg,if_neg]
 ·simp only [not_or,Classical.not_not,List.all_eq_true,decide_eq_true_eq]
  exact ⟨fun p hp=>(h5 p hp).2.2.2.2,fun s hs=>(h6 s hs).2.2.2⟩
 ·simp only [not_or,Classical.not_not,List.all_eq_true,decide_eq_true_eq]
  exact ⟨fun p hp r hr=>(h5 p hp).2.2.2.1 r hr,fun s hs=>⟨(h6 s hs).1,(h6 s hs).2.1,(h6 s hs).2.2.1⟩⟩
 ·simp only [Classical.not_not,List.all_eq_true,decide_eq_true_eq]
  exact fun p hp=>⟨(h5 p hp).2.1,(h5 p hp).2.2.1⟩
 ·simp only [not_or,Classical.not_not,List.all_eq_true,decide_eq_true_eq]
  exact ⟨h1,h2,by omega,by omega,fun p hp=>(h5 p hp).1⟩
def prB (w:AVal) (each ph:Int) (wv:Bool):ABlk:=⟨.cells [w,.int .i64 each,.int .i64 ph,.bool wv] 81 false false,0⟩
theorem rise_pair {l:List Int} (h:riseB l=true):l.Pairwise (·<·):=by
 have h:=of_decide_eq_true h
 rw [List.pairwise_iff_getElem]
 intro i j hi hj hij
 obtain ⟨d,rfl⟩:∃ d,j=i+1+d:=⟨j-(i+1),by omega⟩
 clear hij
 have st:∀ k,(hk:k+1<l.length)→l[k]<l[k+1]:=fun k hk=>by
  have:=h (k+1) hk (by omega)
  rwa [Nat.add_sub_cancel,getD_at (show k<l.length by omega),getD_at hk] at this
 induction d with
 | zero=>exact st i hj
 | succ d ih=>exact Int.lt_trans (ih (by omega) st) (st (i+1+d) hj)
end Flt
end Go.AM
