/-
  Contracts: parts and sights that exist, the error of a break, spots of a sight.
-/
import Derived.Test.YtcemgempgbjbeaaGreatU13
import Derived.Test.YtcemgempgbjbeaaGreatU12
set_option linter.unusedSimpArgs false
set_option linter.unusedVariables false
namespace Go.AM
namespace F4
open Go.Proofs.Tryz
theorem Parts.len {h:Heap} {v:AVal} {ps:List Prt} (x:Parts h v ps):lenOpA prog h 59 v=some (.int .i64 (ps.length:Int)):=by
 obtain ⟨vs,h1,h2,_⟩:=x
 have:=h1.len (P:=prog) Fc.el59
 rwa [h2] at this
theorem Parts.one {h:Heap} {v:AVal} {ps:List Prt} (x:Parts h v ps):One v:=by
 obtain ⟨vs,h1,_⟩:=x
 exact h1.one
theorem run_part {base:Nat} {h:Heap} {R T n:Int} {pv sv:AVal} {ps:List Prt} (hP:Parts h pv ps) (hS:One sv) (hl:ps.length≤1048576):callL prog raw base (.fn 121 [] []) [lomV R T pv sv,.int .i64 n] h=some (.bool (decide (0≤n∧n≤(ps.length:Int)-1)),h):=by
 have hn:∀ {T':Heap},lenOpA prog (h++T') 59 pv=some (.int .i64 (ps.length:Int)):=fun {T'}=>(hP.ext (.app .refl)).len
 have ho:=hP.one
 refine callL_run func121 rfl rfl ?_
 have hsp:=@Nat.succ_ne_zero;repeat' (first|simp (disch:=first|exact dq|fail) only [go_sem,hsp,hn]|refine WP_drw ?_|refine cnd_intro (fun hsp=>?_) fun hsp=>?_)
 exact fB rfl
def brkM (L:Lom) (b:Int × Int × Int):Int :=
 if ¬ (0≤b.1∧b.1≤(L.ps.length:Int)-1) then 1 else
 if ¬ (0≤b.2.1∧b.2.1≤L.T-1) ∨ ¬ (0≤b.2.2∧b.2.2≤L.T-1) ∨ b.2.1 > b.2.2 then 3 else 0
theorem run_broken {base:Nat} {h:Heap} {L:Lom} {pv sv:AVal} {b:Int × Int × Int} (hP:Parts h pv L.ps) (hS:One sv) (hl:L.ps.length≤1048576) (hT:-1000≤L.T∧L.T≤1000):callL prog raw base (.fn 60 [] []) [lomV L.R L.T pv sv,.agg (encB.cells b)] h=some (.int .i64 (brkM L b),h):=by
 have hp:∀ {base:Nat} {T':Heap} {n:Int},callL prog raw base (.fn 121 [] []) [lomV L.R L.T pv sv,.int .i64 n] (h++T')=some (.bool (decide (0≤n∧n≤(L.ps.length:Int)-1)),h++T'):=fun {base T' n}=>run_part (hP.ext (.app .refl)) hS hl
 have hp2:∀ {base:Nat} {a c:ABlk} {n:Int},callL prog raw base (.fn 121 [] []) [lomV L.R L.T pv sv,.int .i64 n] (h++[a]++[c])=some (.bool (decide (0≤n∧n≤(L.ps.length:Int)-1)),h++[a]++[c]):=fun {base a c n}=>by rw [List.append_assoc];exact hp
 have ho:=hP.one
 simp only [encB]
 refine callL_run func60 rfl rfl ?_
 by_cases c1:0≤b.1∧b.1≤(L.ps.length:Int)-1
 ·have t1:(0≤b.1∧b.1≤(L.ps.length:Int)-1)=True:=eq_true c1
  by_cases c2:0≤b.2.1∧b.2.1≤L.T-1
  ·have t2:(0≤b.2.1∧b.2.1≤L.T-1)=True:=eq_true c2
   by_cases c3:0≤b.2.2∧b.2.2≤L.T-1
   ·have t3:(0≤b.2.2∧b.2.2≤L.T-1)=True:=eq_true c3
    by_cases c4:b.2.1 > b.2.2
    ·have t4:(b.2.1 > b.2.2)=True:=eq_true c4
     have r:brkM L b=3:=by unfold brkM;rw [if_neg (fun q=>q c1),if_pos (.inr (.inr c4))]
     rw [r]
     have hsp:=@Nat.succ_ne_zero;repeat' (first|simp (disch:=first|exact dq|fail) only [go_sem,hsp,hp2,t1,t2,t3,t4]|refine WP_drw ?_|refine cnd_intro (fun hsp=>?_) fun hsp=>?_)
     exact fI rfl
    ·have t4:(b.2.1 > b.2.2)=False:=eq_false c4
     have r:brkM L b=0:=by unfold brkM;rw [if_neg (fun q=>q c1),if_neg (by rintro (q|q|q);exact q c2;exact q c3;exact c4 q)]
     rw [r]
     have hsp:=@Nat.succ_ne_zero;repeat' (first|simp (disch:=first|exact dq|fail) only [go_sem,hsp,hp2,t1,t2,t3,t4]|refine WP_drw ?_|refine cnd_intro (fun hsp=>?_) fun hsp=>?_)
     exact fI rfl
   ·have t3:(0≤b.2.2∧b.2.2≤L.T-1)=False:=eq_false c3
    have r:brkM L b=3:=by unfold brkM;rw [if_neg (fun q=>q c1),if_pos (.inr (.inl c3))]
    rw [r]
    have hsp:=@Nat.succ_ne_zero;repeat' (first|simp (disch:=first|exact dq|fail) only [go_sem,hsp,hp2,t1,t2,t3]|refine WP_drw ?_|refine cnd_intro (fun hsp=>?_) fun hsp=>?_)
    exact fI rfl
  ·have t2:(0≤b.2.1∧b.2.1≤L.T-1)=False:=eq_false c2
   have r:brkM L b=3:=by unfold brkM;rw [if_neg (fun q=>q c1),if_pos (.inl c2)]
   rw [r]
   have hsp:=@Nat.succ_ne_zero;repeat' (first|simp (disch:=first|exact dq|fail) only [go_sem,hsp,hp2,t1,t2]|refine WP_drw ?_|refine cnd_intro (fun hsp=>?_) fun hsp=>?_)
   exact fI rfl
 ·have t1:(0≤b.1∧b.1≤(L.ps.length:Int)-1)=False:=eq_false c1
  have r:brkM L b=1:=by unfold brkM;rw [if_pos c1]
  rw [r]
  have hsp:=@Nat.succ_ne_zero;repeat' (first|simp (disch:=first|exact dq|fail) only [go_sem,hsp,hp2,t1]|refine WP_drw ?_|refine cnd_intro (fun hsp=>?_) fun hsp=>?_)
  exact fI rfl
def hasB (s:Sgt) (x:Int × Int):Bool:=decide (x.1=s.rib∧s.lo≤x.2∧x.2≤s.hi)
theorem run_has {base:Nat} {h:Heap} {s:Sgt} {x:Int × Int}:callL prog raw base (.fn 242 [.agg (encS.cells s)] []) [.agg (encT.cells x)] h=some (.bool (hasB s x),h):=by
 simp only [encS,encT]
 refine callL_run func242 rfl rfl ?_
 by_cases c1:x.1=s.rib
 ·have t1:(x.1=s.rib)=True:=eq_true c1
  have hsp:=@Nat.succ_ne_zero;repeat' (first|simp (disch:=first|exact dq|fail) only [go_sem,hsp,t1,Fc.eq70,and_true,true_and,eq_self]|refine WP_drw ?_|refine cnd_intro (fun hsp=>?_) fun hsp=>?_)
  refine fB ?_
  unfold hasB
  simp [c1]
 ·have t1:(x.1=s.rib)=False:=eq_false c1
  have hsp:=@Nat.succ_ne_zero;repeat' (first|simp (disch:=first|exact dq|fail) only [go_sem,hsp,t1,Fc.eq70,false_and,and_true,eq_self]|refine WP_drw ?_|refine cnd_intro (fun hsp=>?_) fun hsp=>?_)
  refine fB ?_
  unfold hasB
  simp [c1]
end F4
end Go.AM
namespace Go.AM
namespace F4
open Go.Proofs.Tryz
attribute [-go_sem] put_ne put_same
attribute [local go_sem ↓] put_if
def thr (each ph:Int) (a:Nat):Nat→List Int
 | 0=>[]
 | n+1=>thr each ph a n++(if ((a+n:Nat):Int).tmod each=ph then [((a+n:Nat):Int)] else [])
def spotsR (p:Prt) (a n:Nat) (i:Nat):List (Int × Int):=(p.rib.take i).flatMap fun r=>(thr p.each p.ph a n).map fun t=>(r,t)
def spotsN (p:Prt) (a n:Nat):List (Int × Int):=p.rib.flatMap fun r=>(thr p.each p.ph a n).map fun t=>(r,t)
theorem thr_len {each ph:Int} {a:Nat}:∀ n,(thr each ph a n).length≤n
 | 0=>Nat.le_refl _
 | n+1=>by
  have:=thr_len (each:=each) (ph:=ph) (a:=a) n
  simp only [thr,List.length_append]
  split<;>simp<;>omega
theorem spotsR_succ {p:Prt} {a n i:Nat} (hi:i<p.rib.length):spotsR p a n (i+1)=spotsR p a n i++(thr p.each p.ph a n).map fun t=>(p.rib.getD i 0,t):=by
 unfold spotsR
 rw [List.take_add_one,List.getElem?_eq_getElem hi,List.flatMap_append,List.getD_eq_getElem?_getD,List.getElem?_eq_getElem hi]
 simp
theorem spotsR_len {p:Prt} {a n:Nat}:∀ i,i≤p.rib.length→(spotsR p a n i).length≤i * n
 | 0,_=>by simp [spotsR]
 | i+1,h=>by
  have ih:=spotsR_len (p:=p) (a:=a) (n:=n) i (by omega)
  have:=thr_len (each:=p.each) (ph:=p.ph) (a:=a) n
  rw [spotsR_succ (by omega),List.length_append,List.length_map,Nat.succ_mul]
  omega
theorem bsT {lit:Bool} {h:Heap} {a b:Int}:bsA prog lit h 63 1 [(0,.agg [.int .i64 a,.int .i64 b])]=some (.slice (some ⟨h.length,0,0⟩) 1 1,h++[rowE encT 70 [(a,b)] 0]):=by
 simp [bsA,rowOf,Fc.el63,fillA,repCells,AVal.isN,AVal.cells,splice,rowE,flat,encT]
theorem stE7 {base:Nat} {l:List Oper} {s:St} {Q:AExit→St→Prop}:WP prog raw base (.region 3 l.toArray false) s Q=WPS prog raw base (.region 3 l.toArray false) s Q:=WP_stop
attribute [local go_sem ↓ 3000] stE7
set_option maxHeartbeats 1000000 in
theorem run_spots {base:Nat} {h:Heap} {L:Lom} {pv sv:AVal} {b:Int × Int × Int} {k:Nat} {p:Prt} (hb:base≤h.length) (hP:Parts h pv L.ps) (hS:One sv) (hp:L.ps[k]?=some p) (hk:b.1=(k:Int)) (h0:0≤b.2.1) (h1:-1000≤b.2.2∧b.2.2≤1000) (h2:b.2.1≤1000) (he:1≤p.each∧p.each≤1000) (hrl:p.rib.length≤1000) :
  Ret prog raw base (.fn 61 [] []) [lomV L.R L.T pv sv,.agg (encB.cells b)] h (fun v H=>Ext h H∧Own encT 70 h.length H v (spotsN p b.2.1.toNat (b.2.2+1-b.2.1).toNat)):=by
 obtain ⟨vs,hR,hvl,h3⟩:=hP
 have hkl:k<L.ps.length:=(List.getElem?_eq_some_iff.1 hp).1
 have hx:vs[k]?=some vs[k]:=List.getElem?_eq_getElem (by omega)
 obtain ⟨q1,q2,q3,q4⟩:=h3 k _ _ hx hp
 have had:=hR.addr (P:=prog) (i:=(k:Int)) Fc.el59 Fc.ar59 (by omega) (by omega)
 rw [Int.toNat_natCast] at had
 have hld:∀ {T:Heap},loadP prog (h++T) 58 (elAdr pv encP.z k 0)=some (.agg [vs[k].v,.int .i64 p.each,.int .i64 p.ph,.bool p.wv]):=fun {T}=>by
  rw [hR.app.load Fc.ty58 hx]
  show some (AVal.agg [norm vs[k].v,.int .i64 vs[k].each,.int .i64 vs[k].ph,.bool vs[k].wv])=_
  rw [norm_one q1.one,q2,q3,q4]
 have hld2:∀ {a c d:ABlk},loadP prog (h++[a]++[c]++[d]) 58 (elAdr pv encP.z k 0)=some (.agg [vs[k].v,.int .i64 p.each,.int .i64 p.ph,.bool p.wv]):=fun {a c d}=>by rw [List.append_assoc,List.append_assoc];exact hld
 have hld1:∀ {a c:ABlk},loadP prog (h++[a]++[c]) 58 (elAdr pv encP.z k 0)=some (.agg [vs[k].v,.int .i64 p.each,.int .i64 p.ph,.bool p.wv]):=fun {a c}=>by rw [List.append_assoc];exact hld
 have ho:=hR.one
 have ho2:=q1.one
 simp only [encB]
 refine ret_raw func61 rfl (by kernel_rfl) ?_
 have hsp:=@Nat.succ_ne_zero;repeat' (first|simp (disch:=first|exact dq|fail) only [go_sem,↓reduceIte,hsp,hk,had,hld1,hld2]|refine WP_drw ?_|refine cnd_intro (fun hsp=>?_) fun hsp=>?_)
 refine WPS_rest fun F G eF eG=>?_
 rw [WP_region]
 have kF3:=congrFun eF 3
 have kF5:=congrFun eF 5
 have kF6:=congrFun eF 6
 try simp (disch:=first|exact dq|fail) only [go_sem,↓reduceIte] at kF3 kF5 kF6
 have gF3:=congrArg (fun X=>atP X (F 3)) eG
 have gF6:=congrArg (fun X=>atP X (F 6)) eG
 try simp only [kF3,kF6,atP_ptr] at gF3 gF6
 have lG:=congrArg List.length eG
 try simp (disch:=first|exact dq|fail) only [go_sem,↓reduceIte] at gF3 gF6 lG
 have xG:Ext h G:=by rw [eG];repeat' first|exact Ext.refl|refine Ext.app ?_
 have qG:=q1.ext xG
 have hG:=xG.len
 clear eG lG eF had hld hld1 hld2
 obtain ⟨a,ea⟩:=Int.eq_ofNat_of_zero_le h0
 obtain ⟨n,en⟩:∃ n:Nat,(b.2.2+1-b.2.1).toNat=n:=⟨_,rfl⟩
 have ea2:b.2.1.toNat=a:=by omega
 rw [en,ea2]
 have hn:n≤2001:=by omega
 have hsp:=@Nat.succ_ne_zero;repeat' (first|simp (disch:=first|exact dq|fail) only [go_sem,↓reduceIte,hsp,kF3,kF5,kF6,gF3,gF6,gF3,gF6]|refine WP_drw ?_|refine cnd_intro (fun hsp=>?_) fun hsp=>?_)
 refine WP_count [(5,5),(8,9),(19,44)] 0 p.rib.length (Nat.zero_le _) (fun H i fr h'=>fr 19=.int .i64 (i:Int)∧Ext G h'∧∃ v,fr 5=v∧Own encT 70 G.length h' v (spotsR p a n i)) ?_ ?_ ?_
 ·exact ⟨by (simp (disch:=first|exact dq|fail) only [go_sem,↓reduceIte,Int.natCast_zero];first|done|rfl),.refl,.slice none 0 0,by simp (disch:=first|exact dq|fail) only [go_sem,↓reduceIte,kF3,kF5,kF6,gF3,gF6],by simp only [spotsR,List.take_zero,List.flatMap_nil];exact Own.nil⟩
 ·rintro i fr H hi0 hi hA ⟨r19,xH,v,r5,hO⟩
  have p3:=hA 3 rfl
  have p6:=hA 6 rfl
  try simp (disch:=first|exact dq|fail) only [go_sem,↓reduceIte,kF3,kF6] at p3 p6
  have p17:=hA 17 rfl;simp (disch:=first|exact dq|fail) only [go_sem,↓reduceIte] at p17
  have p18:=hA 18 rfl;simp (disch:=first|exact dq|fail) only [go_sem,↓reduceIte] at p18
  have g3:=xH.get gF3
  have g6:=xH.get gF6
  have hIH:=qG.ext xH
  have hlt:((i:Int)<(p.rib.length:Int))=True:=eq_true (by omega)
  have hii:(i:Int)<(p.rib.length:Int):=by omega
  have hsp:=@Nat.succ_ne_zero;repeat' (first|simp (disch:=first|exact dq|fail) only [go_sem,↓reduceIte,hsp,r19,r5,p3,p6,p17,p18,hlt,g3,ea,Int.toNat_natCast]|refine WP_drw ?_|refine cnd_intro (fun hsp=>?_) fun hsp=>?_)
  refine WP_count [(5,5),(9,9),(25,43)] 0 n (Nat.zero_le _) (fun _ j fr h'=>fr 9=.int .i64 ((a+j:Nat):Int)∧Ext G h'∧∃ v,fr 5=v∧Own encT 70 G.length h' v (spotsR p a n i++(thr p.each p.ph a j).map fun t=>(p.rib.getD i 0,t))) ?_ ?_ ?_
  ·exact ⟨by (simp (disch:=first|exact dq|fail) only [go_sem,↓reduceIte,Int.natCast_zero];first|done|rfl),xH,v,by simp (disch:=first|exact dq|fail) only [go_sem,↓reduceIte,r5],by simpa [thr] using hO⟩
  ·rintro j fr2 H2 hj0 hj hA2 ⟨q9,xH2,v2,q5,hO2⟩
   have q3:=hA2 3 rfl
   have q6:=hA2 6 rfl
   try simp (disch:=first|exact dq|fail) only [go_sem,↓reduceIte,p3,p6] at q3 q6
   have q8:=hA2 8 rfl;simp (disch:=first|exact dq|fail) only [go_sem,↓reduceIte] at q8
   have g3':=xH2.get gF3
   have g6':=xH2.get gF6
   have hlt2:(((a+j:Nat):Int)≤b.2.2)=True:=eq_true (by omega)
   have hrem:binA prog .rem 3 (.int .i64 ((a+j:Nat):Int)) (.int .i64 p.each)=some (.int .i64 (((a+j:Nat):Int).tmod p.each)):=bin_rem (by omega)
   have hbd:a+j≤3001:=by omega
   by_cases ht:((a+j:Nat):Int).tmod p.each=p.ph
   ·have t1:(((a+j:Nat):Int).tmod p.each=p.ph)=True:=eq_true ht
    have hl1:=spotsR_len (p:=p) (a:=a) (n:=n) i (by omega)
    have hl2:=thr_len (each:=p.each) (ph:=p.ph) (a:=a) j
    have hl3:i * n≤1000 * 2001:=Nat.mul_le_mul (by omega) hn
    obtain ⟨v',h',ea',hO',hle,hE,h1'⟩:=(hO2.app (T:=[rowE encT 70 [(p.rib.getD i 0,((a+j:Nat):Int))] 0])).appendR (x:=.slice (some ⟨H2.length,0,0⟩) 1 1) (m:=[(p.rib.getD i 0,((a+j:Nat):Int))]) (base:=base) (t:=63) (Rows.own (get_eq rfl) rfl (by simp)) Fc.el63 encT_sc (by omega) (by have:=xH2.len;simp;omega) (by simp) (by simp;omega)
    have hsp:=@Nat.succ_ne_zero;repeat' (first|simp (disch:=first|exact dq|fail) only [go_sem,↓reduceIte,hsp,q9,q5,q3,q6,q8,hlt2,g3',g6',hrem,t1,bsT,ea']|refine WP_drw ?_|refine cnd_intro (fun hsp=>?_) fun hsp=>?_)
    refine ⟨agq,by omega,hE G (Nat.le_refl _) (Ext.app xH2),v',rfl,?_⟩
    rw [thr,if_pos ht,List.map_append,← List.append_assoc]
    exact hO'
   ·have t1:(((a+j:Nat):Int).tmod p.each=p.ph)=False:=eq_false ht
    have hsp:=@Nat.succ_ne_zero;repeat' (first|simp (disch:=first|exact dq|fail) only [go_sem,↓reduceIte,hsp,q9,q5,q3,q6,q8,hlt2,g3',g6',hrem,t1]|refine WP_drw ?_|refine cnd_intro (fun hsp=>?_) fun hsp=>?_)
    refine ⟨agq,by omega,xH2,v2,rfl,?_⟩
    rw [thr,if_neg ht,List.append_nil]
    exact hO2
  ·rintro fr2 H2 hA2 ⟨q9,xH2,v2,q5,hO2⟩
   have q3:=hA2 3 rfl
   have q6:=hA2 6 rfl
   try simp (disch:=first|exact dq|fail) only [go_sem,↓reduceIte,p3,p6] at q3 q6
   have q19:=hA2 19 rfl;simp (disch:=first|exact dq|fail) only [go_sem,↓reduceIte,r19] at q19
   have g3':=xH2.get gF3
   have hlt2:(((a+n:Nat):Int)≤b.2.2)=False:=eq_false (by omega)
   have hsp:=@Nat.succ_ne_zero;repeat' (first|simp (disch:=first|exact dq|fail) only [go_sem,↓reduceIte,hsp,q9,q5,q3,q6,q19,hlt2,g3']|refine WP_drw ?_|refine cnd_intro (fun hsp=>?_) fun hsp=>?_)
   refine ⟨agq,by omega,xH2,v2,rfl,?_⟩
   rw [spotsR_succ hi]
   exact hO2
 ·rintro fr H hA ⟨r19,xH,v,r5,hO⟩
  have p18:=hA 18 rfl;simp (disch:=first|exact dq|fail) only [go_sem,↓reduceIte] at p18
  have hlt:((p.rib.length:Int)<(p.rib.length:Int))=False:=eq_false (by omega)
  have hsp:=@Nat.succ_ne_zero;repeat' (first|simp (disch:=first|exact dq|fail) only [go_sem,↓reduceIte,hsp,r19,r5,p18,hlt]|refine WP_drw ?_|refine cnd_intro (fun hsp=>?_) fun hsp=>?_)
  refine ⟨Ext.trans xG xH,?_⟩
  have:spotsR p a n p.rib.length=spotsN p a n:=by unfold spotsR spotsN;rw [List.take_length]
  rw [← this]
  exact hO.low hG
end F4
end Go.AM
namespace Go.AM
namespace F4
open Go.Proofs.Tryz
theorem chkM_ok {L:Lom} (h:chkM L=0):(1≤L.R∧L.R≤6)∧(1≤L.T∧L.T≤12)∧(1≤L.ps.length∧L.ps.length≤6)∧L.ss.length≤10 ∧
  (∀ p ∈ L.ps,0<p.rib.length∧(1≤p.each∧p.each≤4)∧(0≤p.ph∧p.ph≤p.each-1)∧(∀ r ∈ p.rib,0≤r∧r≤L.R-1)∧riseB p.rib=true) ∧
  (∀ s ∈ L.ss,(0≤s.rib∧s.rib≤L.R-1)∧(0≤s.lo∧s.lo≤L.T-1)∧(0≤s.hi∧s.hi≤L.T-1)∧s.lo≤s.hi):=by
 unfold chkM at h
 split at h
 ·cases h
 ·rename_i h1
  split at h
  ·cases h
  ·rename_i h2
   split at h
   ·cases h
   ·rename_i h3
    split at h
    ·cases h
    ·rename_i h4
     simp only [not_or,Classical.not_not] at h1 h2 h3 h4
     obtain ⟨a1,a2,a3,a4,a5⟩:=h1
     refine ⟨a1,a2,by omega,by omega,fun p hp=>?_,fun s hs=>?_⟩
     ·have b1:=of_decide_eq_true (List.all_eq_true.1 a5 p hp)
      have b2:=of_decide_eq_true (List.all_eq_true.1 h2 p hp)
      have b3:=List.all_eq_true.1 (List.all_eq_true.1 h3.1 p hp)
      exact ⟨b1,b2.1,b2.2,fun r hr=>of_decide_eq_true (b3 r hr),List.all_eq_true.1 h4.1 p hp⟩
     ·have b1:=of_decide_eq_true (List.all_eq_true.1 h3.2 s hs)
      have b2:=of_decide_eq_true (List.all_eq_true.1 h4.2 s hs)
      exact ⟨b1.1,b1.2.1,b1.2.2,b2⟩
theorem brkM_ok {L:Lom} {b:Int × Int × Int} (h:brkM L b=0):(0≤b.1∧b.1<L.ps.length)∧(0≤b.2.1∧b.2.1≤L.T-1)∧(0≤b.2.2∧b.2.2≤L.T-1)∧b.2.1≤b.2.2:=by
 unfold brkM at h
 split at h
 ·cases h
 ·rename_i h1
  split at h
  ·cases h
  ·rename_i h2
   simp only [not_or,Classical.not_not] at h1 h2
   omega
def splM (L:Lom) (b:Int × Int × Int):List (Int × Int) × Int :=
 if chkM L ≠ 0 then ([],chkM L) else if brkM L b ≠ 0 then ([],brkM L b) else (spotsN (L.ps.getD b.1.toNat ⟨[],1,0,false⟩) b.2.1.toNat (b.2.2+1-b.2.1).toNat,0)
end F4
end Go.AM
namespace Go.AM
namespace F4
open Go.Proofs.Tryz
attribute [-go_sem] put_ne put_same
attribute [local go_sem ↓] put_if
def upto (n:Nat):List Int:=lst (fun i=>(i:Int)) n
theorem upto_succ {n:Nat}:upto (n+1)=upto n++[(n:Int)]:=lst_succ
theorem upto_len {n:Nat}:(upto n).length=n:=lst_len
set_option maxHeartbeats 1000000 in
theorem run_whole {base:Nat} {h:Heap} {R T:Int} {pv sv:AVal} {ss:List Sgt} (hb:base≤h.length) (hP:One pv) (hS:Rows encS h sv ss) (hl:ss.length≤1048576) :
  Ret prog raw base (.fn 105 [] []) [lomV R T pv sv] h (fun v H=>Ext h H∧Own encI 3 h.length H v (upto ss.length)):=by
 have hn:∀ {T':Heap},lenOpA prog (h++T') 60 sv=some (.int .i64 (ss.length:Int)):=fun {T'}=>hS.app.len Fc.el60
 have ho:=hS.one
 refine ret_raw func105 rfl (by kernel_rfl) ?_
 have hsp:=@Nat.succ_ne_zero;repeat' (first|simp (disch:=first|exact dq|fail) only [go_sem,↓reduceIte,hsp,hn]|refine WP_drw ?_|refine cnd_intro (fun hsp=>?_) fun hsp=>?_)
 refine WP_count [(3,4),(8,16)] 0 ss.length (Nat.zero_le _) (fun H0 i fr h'=>fr 8=.int .i64 (i:Int)∧Ext H0 h'∧∃ v,fr 3=v∧Own encI 3 H0.length h' v (upto i)) ?_ ?_ ?_
 ·exact ⟨by (simp (disch:=first|exact dq|fail) only [go_sem,↓reduceIte,Int.natCast_zero];first|done|rfl),.refl,.slice none 0 0,by simp (disch:=first|exact dq|fail) only [go_sem,↓reduceIte],Own.nil⟩
 ·rintro i fr H hi0 hi hA ⟨r8,xH,v,r3,hO⟩
  have p7:=hA 7 rfl;simp (disch:=first|exact dq|fail) only [go_sem,↓reduceIte] at p7
  have hlt:((i:Int)<(ss.length:Int))=True:=eq_true (by omega)
  have hlen:=xH.len
  have hul:=upto_len (n:=i)
  obtain ⟨v',h',ea,hO',hle,hE,h1'⟩:=hO.append1 (y:=(i:Int)) (base:=base) (t:=35) rfl rfl Fc.el35 encI_sc (by simp only [List.length_append,List.length_cons,List.length_nil];omega) hlen (by omega)
  have hsp:=@Nat.succ_ne_zero;repeat' (first|simp (disch:=first|exact dq|fail) only [go_sem,↓reduceIte,hsp,r8,r3,p7,hlt,ea]|refine WP_drw ?_|refine cnd_intro (fun hsp=>?_) fun hsp=>?_)
  refine ⟨agq,by omega,hE _ (Nat.le_refl _) xH,v',rfl,?_⟩
  rw [upto_succ]
  simpa only [List.length_append,List.length_cons,List.length_nil] using hO'
 ·rintro fr H hA ⟨r8,xH,v,r3,hO⟩
  have p7:=hA 7 rfl;simp (disch:=first|exact dq|fail) only [go_sem,↓reduceIte] at p7
  have hlt:((ss.length:Int)<(ss.length:Int))=False:=eq_false (by omega)
  have hsp:=@Nat.succ_ne_zero;repeat' (first|simp (disch:=first|exact dq|fail) only [go_sem,↓reduceIte,hsp,r8,r3,p7,hlt]|refine WP_drw ?_|refine cnd_intro (fun hsp=>?_) fun hsp=>?_)
  exact ⟨Ext.trans (.app .refl) xH,hO.low (by simp only [List.length_append,List.length_cons,List.length_nil];omega)⟩
end F4
end Go.AM
namespace Go.AM
namespace F4
open Go.Proofs.Tryz
attribute [-go_sem] put_ne put_same
attribute [local go_sem ↓] put_if
def numsN (l:List Bool) (n:Nat):List Int:=(upto n).filter fun i=>l.getD i.toNat false
theorem numsN_succ {l:List Bool} {n:Nat}:numsN l (n+1)=numsN l n++(if l.getD n false then [(n:Int)] else []):=by
 unfold numsN
 rw [upto_succ,List.filter_append]
 congr 1
 simp only [List.filter_cons,List.filter_nil,Int.toNat_natCast]
theorem numsN_len {l:List Bool} {n:Nat}:(numsN l n).length≤n:=by
 have:=List.length_filter_le (fun i:Int=>l.getD i.toNat false) (upto n)
 rw [upto_len] at this
 exact this
set_option maxHeartbeats 1000000 in
theorem run_numbers {base:Nat} {h:Heap} {l:List Bool} {m:Nat} (hb:base≤h.length) (hl:l.length=12) (hm:m≤12) :
  Ret prog raw base (.fn 122 [] []) [.agg (l.map .bool),.int .i64 (m:Int)] h (fun v H=>Ext h H∧Own encI 3 h.length H v (numsN l m)):=by
 refine ret_raw func122 rfl (by kernel_rfl) ?_
 have hsp:=@Nat.succ_ne_zero;repeat' (first|simp (disch:=first|exact dq|fail) only [go_sem,↓reduceIte,hsp]|refine WP_drw ?_|refine cnd_intro (fun hsp=>?_) fun hsp=>?_)
 refine WP_count [(5,6),(8,18)] 0 m (Nat.zero_le _) (fun H0 i fr h'=>fr 8=.int .i64 (i:Int)∧Ext H0 h'∧∃ v,fr 5=v∧Own encI 3 H0.length h' v (numsN l i)) ?_ ?_ ?_
 ·exact ⟨by (simp (disch:=first|exact dq|fail) only [go_sem,↓reduceIte,Int.natCast_zero];first|done|rfl),.refl,.slice none 0 0,by simp (disch:=first|exact dq|fail) only [go_sem,↓reduceIte],Own.nil⟩
 ·rintro i fr H hi0 hi hA ⟨r8,xH,v,r5,hO⟩
  have p7:=hA 7 rfl;simp (disch:=first|exact dq|fail) only [go_sem,↓reduceIte] at p7
  have p2:=hA 2 rfl;simp (disch:=first|exact dq|fail) only [go_sem,↓reduceIte] at p2
  have hlt:((i:Int)<(m:Int))=True:=eq_true (by omega)
  have hlen:=xH.len
  have hg:H[h.length]?=some ⟨.cells (l.map .bool) 244 false false,0⟩:=xH.get (by simp)
  have hv:ldB (some (false,1)) H[h.length]? 0 i=some (.bool (l.getD i false)):=by
   rw [hg]
   have hi':i<l.length:=by omega
   show (l.map AVal.bool)[i]?=_
   rw [List.getElem?_map,List.getD_eq_getElem?_getD,List.getElem?_eq_getElem hi']
   rfl
  cases hb:l.getD i false with
  | true =>
   rw [hb] at hv
   have hul:=numsN_len (l:=l) (n:=i)
   obtain ⟨v',h',ea,hO',hle,hE,h1'⟩:=hO.append1 (y:=(i:Int)) (base:=base) (t:=35) rfl rfl Fc.el35 encI_sc (by simp only [List.length_append,List.length_cons,List.length_nil];omega) hlen (by omega)
   have hsp:=@Nat.succ_ne_zero;repeat' (first|simp (disch:=first|exact dq|fail) only [go_sem,↓reduceIte,hsp,r8,r5,p7,p2,hlt,hv,ea]|refine WP_drw ?_|refine cnd_intro (fun hsp=>?_) fun hsp=>?_)
   refine ⟨agq,by omega,hE _ (Nat.le_refl _) xH,v',rfl,?_⟩
   rw [numsN_succ,hb]
   simpa only [if_true,List.length_append,List.length_cons,List.length_nil] using hO'
  | false =>
   rw [hb] at hv
   have hsp:=@Nat.succ_ne_zero;repeat' (first|simp (disch:=first|exact dq|fail) only [go_sem,↓reduceIte,hsp,r8,r5,p7,p2,hlt,hv]|refine WP_drw ?_|refine cnd_intro (fun hsp=>?_) fun hsp=>?_)
   refine ⟨agq,by omega,xH,v,rfl,?_⟩
   rw [numsN_succ,hb]
   simpa using hO
 ·rintro fr H hA ⟨r8,xH,v,r5,hO⟩
  have p7:=hA 7 rfl;simp (disch:=first|exact dq|fail) only [go_sem,↓reduceIte] at p7
  have hlt:((m:Int)<(m:Int))=False:=eq_false (by omega)
  have hsp:=@Nat.succ_ne_zero;repeat' (first|simp (disch:=first|exact dq|fail) only [go_sem,↓reduceIte,hsp,r8,r5,p7,hlt]|refine WP_drw ?_|refine cnd_intro (fun hsp=>?_) fun hsp=>?_)
  exact ⟨Ext.trans (.app .refl) xH,hO.low (by simp only [List.length_append,List.length_cons,List.length_nil];omega)⟩
end F4
end Go.AM
namespace Go.AM
namespace F4
theorem ext_mid {h H:Heap} {a b b' c:ABlk} {n:Nat} (e:Ext (h++[a]++[b]++[c]) H) (hn:n=h.length+1):Ext (h++[a]++[b']++[c]) (H.set n b'):=by
 subst hn
 have q:=e.set2 (i:=h.length+1) (k:=b') (by simp)
 rw [List.set_append_left _ _ (by simp),List.set_append_right _ _ (by simp)] at q
 simpa using q
def mark1 (p:Prt) (r:Int) (a:Nat) (m:List Bool):Nat→List Bool
 | 0=>m
 | n+1=>if ((a+n:Nat):Int).tmod p.each=p.ph∧r ∈ p.rib then (mark1 p r a m n).set (a+n) true else mark1 p r a m n
theorem mark1_pos {p:Prt} {r:Int} {a n:Nat} {m:List Bool} (h:((a+n:Nat):Int).tmod p.each=p.ph∧r ∈ p.rib):mark1 p r a m (n+1)=(mark1 p r a m n).set (a+n) true:=by simp only [mark1];rw [if_pos h]
theorem mark1_neg {p:Prt} {r:Int} {a n:Nat} {m:List Bool} (h:¬ (((a+n:Nat):Int).tmod p.each=p.ph∧r ∈ p.rib)):mark1 p r a m (n+1)=mark1 p r a m n:=by simp only [mark1];rw [if_neg h]
theorem mark1_len {p:Prt} {r:Int} {a:Nat} {m:List Bool}:∀ n,(mark1 p r a m n).length=m.length
 | 0=>rfl
 | n+1=>by simp only [mark1];split<;>simp [mark1_len n]
def markN (ps:List Prt) (r:Int) (a n:Nat) (ms:List (List Bool)):Nat→List (List Bool)
 | 0=>ms
 | k+1=>match ps[k]? with
  | some p=>(markN ps r a n ms k).set k (mark1 p r a ((markN ps r a n ms k).getD k []) n)
  | none=>markN ps r a n ms k
theorem markN_len {ps:List Prt} {r:Int} {a n:Nat} {ms:List (List Bool)}:∀ k,(markN ps r a n ms k).length=ms.length
 | 0=>rfl
 | k+1=>by simp only [markN];split<;>simp [markN_len k]
theorem markN_all {ps:List Prt} {r:Int} {a n w:Nat} {ms:List (List Bool)} (hl:ps.length=ms.length) (h:∀ m ∈ ms,m.length=w):∀ k,∀ m ∈ markN ps r a n ms k,m.length=w
 | 0=>h
 | k+1=>by
  have ih:=markN_all (r:=r) (a:=a) (n:=n) hl h k
  simp only [markN]
  split
  ·rename_i p hp
   have hk:=(List.getElem?_eq_some_iff.1 hp).1
   intro m hm
   rcases List.mem_or_eq_of_mem_set hm with q|q
   ·exact ih m q
   ·rw [q,mark1_len]
    have h2:k<(markN ps r a n ms k).length:=by rw [markN_len];omega
    rw [List.getD_eq_getElem?_getD,List.getElem?_eq_getElem h2]
    exact ih _ (List.getElem_mem h2)
  ·exact ih
def deskS (L:Lom) (d:List Int × List (List Bool)) (i:Int):List Int × List (List Bool) :=
 match L.ss[i.toNat]? with
 | some s=>if s.bad=true then (d.1++[i],d.2) else (d.1,markN L.ps s.rib s.lo.toNat (s.hi+1-s.lo).toNat d.2 L.ps.length)
 | none=>d
def deskN (L:Lom) (o:List Int):List Int × List (List Bool):=o.foldl (deskS L) ([],List.replicate L.ps.length (List.replicate 12 false))
theorem deskN_succ {L:Lom} {o:List Int} {k:Nat} (hk:k<o.length):deskN L (o.take (k+1))=deskS L (deskN L (o.take k)) (o.getD k 0):=by
 unfold deskN
 rw [List.take_add_one,List.getElem?_eq_getElem hk,List.foldl_append,List.getD_eq_getElem?_getD,List.getElem?_eq_getElem hk]
 rfl
theorem deskN_len {L:Lom} (o:List Int):(deskN L o).2.length=L.ps.length∧(∀ m ∈ (deskN L o).2,m.length=12)∧(deskN L o).1.length≤o.length:=by
 suffices g:∀ (o:List Int) (d:List Int × List (List Bool)),d.2.length=L.ps.length→(∀ m ∈ d.2,m.length=12)→(o.foldl (deskS L) d).2.length=L.ps.length∧(∀ m ∈ (o.foldl (deskS L) d).2,m.length=12)∧(o.foldl (deskS L) d).1.length≤d.1.length+o.length by
  have:=g o ([],List.replicate L.ps.length (List.replicate 12 false)) (by simp) (fun m hm=>by rw [(List.mem_replicate.1 hm).2];simp)
  simpa [deskN] using this
 intro o
 induction o with
 | nil=>intro d h1 h2;exact ⟨h1,h2,by simp⟩
 | cons i o ih =>
  intro d h1 h2
  have g:(deskS L d i).2.length=L.ps.length∧(∀ m ∈ (deskS L d i).2,m.length=12)∧(deskS L d i).1.length≤d.1.length+1:=by
   unfold deskS
   split
   ·split
    ·exact ⟨h1,h2,by simp⟩
    ·exact ⟨by rw [markN_len];exact h1,markN_all h1.symm h2 _,by simp⟩
   ·exact ⟨h1,h2,by simp⟩
  obtain ⟨a,b,c⟩:=ih _ g.1 g.2.1
  refine ⟨a,b,?_⟩
  simp only [List.foldl_cons,List.length_cons]
  have:=g.2.2
  omega
end F4
end Go.AM
namespace Go.AM
namespace F4
open Go.Proofs.Tryz
attribute [-go_sem] put_ne put_same
attribute [local go_sem ↓] put_if
theorem make_full {P:Program} {t:TypeId} {h:Heap} {zs:List AVal} {e:TypeId} {z:Nat} {n:Nat} (ht:elS P t=some (e,z,zs)) (h0:0<n) (h1:n<4294967296) :
  makeSliceA P h t (.int .i64 (n:Int)) (.int .i64 (n:Int))=some (.slice (some ⟨h.length,0,0⟩) n n,h++[⟨.cells (repCells zs n) e true false,0⟩]):=by
 simp only [makeSliceA,ht]
 rw [if_pos ⟨by omega,Int.le_refl _,by omega⟩,if_neg (by omega)]
 rfl
def encM:Enc (List Bool):=⟨12,fun m=>[.bool (m.getD 0 false),.bool (m.getD 1 false),.bool (m.getD 2 false),.bool (m.getD 3 false),.bool (m.getD 4 false),.bool (m.getD 5 false),.bool (m.getD 6 false),.bool (m.getD 7 false),.bool (m.getD 8 false),.bool (m.getD 9 false),.bool (m.getD 10 false),.bool (m.getD 11 false)],fun _=>rfl,by decide⟩
theorem rep_flat {α:Type} {E:Enc α} {x:α}:∀ n,repCells (E.cells x) n=flat E (List.replicate n x)
 | 0=>rfl
 | n+1=>by
  have:=rep_flat (E:=E) (x:=x) n
  simp [repCells,flat,List.replicate_succ] at this ⊢
  exact this
theorem list12 {l:List Bool} (h:l.length=12):l=[l.getD 0 false,l.getD 1 false,l.getD 2 false,l.getD 3 false,l.getD 4 false,l.getD 5 false,l.getD 6 false,l.getD 7 false,l.getD 8 false,l.getD 9 false,l.getD 10 false,l.getD 11 false]:=by
 match l,h with
 | [a,b,c,d,e,f,g,i,j,k,m,n],_=>rfl
theorem encM_cells {l:List Bool} (h:l.length=12):encM.cells l=l.map .bool:=by
 match l,h with
 | [a,b,c,d,e,f,g,i,j,k,m,n],_=>rfl
theorem flatM_set {ms:List (List Bool)} {m:List Bool} {k t:Nat} {b:Bool} (hg:ms[k]?=some m) (hm:m.length=12) (ht:t<12):(flat encM ms).set (k * 12+t) (.bool b)=flat encM (ms.set k (m.set t b)):=by
 have hk:=(List.getElem?_eq_some_iff.1 hg).1
 have hf:=flat_get encM hg
 have e:=flat_set encM (x:=m.set t b) hk
 rw [e]
 have hz:encM.z=12:=rfl
 rw [hz] at hf ⊢
 have hle:=flat_len encM ms
 rw [hz] at hle
 have hkl:(k+1) * 12≤ms.length * 12:=Nat.mul_le_mul_right _ hk
 have hc2:(m.map AVal.bool).length=12:=by rw [List.length_map];exact hm
 have hc3:((m.set t b).map AVal.bool).length=12:=by rw [List.length_map,List.length_set];exact hm
 have hc1:((flat encM ms).take (k * 12)).length=k * 12:=by rw [List.length_take];omega
 rw [encM_cells (by rw [List.length_set];exact hm)]
 rw [encM_cells hm] at hf
 refine List.ext_getElem? fun i=>?_
 rw [List.getElem?_set]
 by_cases h1:i<k * 12
 ·rw [if_neg (by omega),List.append_assoc,List.getElem?_append_left (by omega),List.getElem?_take,if_pos h1]
 ·by_cases h2:i<(k+1) * 12
  ·rw [List.append_assoc,List.getElem?_append_right (by omega),List.getElem?_append_left (by omega),hc1,List.map_set,List.getElem?_set]
   by_cases h3:k * 12+t=i
   ·rw [if_pos h3,if_pos (by omega),if_pos (by omega),if_pos (by omega)]
   ·rw [if_neg h3,if_neg (by omega),← hf,List.getElem?_take,if_pos (by omega),List.getElem?_drop]
    congr 1;omega
  ·rw [if_neg (by omega),List.getElem?_append_right (by rw [List.length_append];omega),List.getElem?_drop]
   congr 1
   rw [List.length_append]
   omega
theorem stQ_mark {ms:List (List Bool)} {m:List Bool} {k t base id:Nat} {e:TypeId} {b:Bool} {K:ABlk→Heap} (hg:ms[k]?=some m) (hm:m.length=12) (ht:t<12):stQ base id (some (rowE encM e ms 0)) 0 (k * 12+t) [.bool b] K=some (K (rowE encM e (ms.set k (m.set t b)) 0)):=by
 have hk:=(List.getElem?_eq_some_iff.1 hg).1
 have hle:=flat_len encM ms
 have hz:encM.z=12:=rfl
 rw [hz] at hle
 have hkl:(k+1) * 12≤ms.length * 12:=Nat.mul_le_mul_right _ hk
 simp only [rowE,stQ]
 rw [if_pos ⟨trivial,by simp only [List.length_cons,List.length_nil];omega,by simp [AVal.scalar],.inr (by simp [AVal.bare])⟩]
 simp only [splice,flatM_set hg hm ht]
def deskB (L:Lom) (pv sv bv mv:AVal):ABlk:=⟨.cells [.int .i64 L.R,.int .i64 L.T,pv,sv,bv,mv] 232 false false,0⟩
set_option maxHeartbeats 1000000 in
theorem run_worked {base:Nat} {h:Heap} {L:Lom} {pv sv ov:AVal} {o:List Int} (hb:base≤h.length) (hP:Parts h pv L.ps) (hS:Rows encS h sv L.ss) (hO:Ints h ov o) (hpl:1≤L.ps.length∧L.ps.length≤6) (hol:o.length≤1000) (hoi:∀ i ∈ o,0≤i∧i<(L.ss.length:Int)) (hss:∀ s ∈ L.ss,0≤s.lo∧s.lo≤11∧s.hi≤11∧-1≤s.hi) (hps:∀ p ∈ L.ps,1≤p.each∧p.each≤1000) :
  Ret prog raw base (.fn 107 [] []) [lomV L.R L.T pv sv,ov] h (fun v H=>v=.ptr (some ⟨h.length+2,0,0⟩)∧Ext h H∧∃ bv mv,H[h.length+2]?=some (deskB L pv sv bv mv)∧Own encI 3 (h.length+3) H bv (deskN L o).1∧mv=.slice (some ⟨h.length+1,0,0⟩) L.ps.length L.ps.length∧H[h.length+1]?=some (rowE encM 244 (deskN L o).2 0)):=by
 have hn:∀ {T':Heap},lenOpA prog (h++T') 59 pv=some (.int .i64 (L.ps.length:Int)):=fun {T'}=>(hP.ext (.app .refl)).len
 have ho:=hP.one
 have ho2:=hS.one
 refine ret_raw func107 rfl (by kernel_rfl) ?_
 have hmk:∀ {h:Heap},_:=fun {h}=>make_full (P:=prog) (h:=h) Fc.el230 (show 0<L.ps.length by omega) (by omega)
 have hsp:=@Nat.succ_ne_zero;repeat' (first|simp (disch:=first|exact dq|fail) only [go_sem,↓reduceIte,hsp,hn,hmk]|refine WP_drw ?_|refine cnd_intro (fun hsp=>?_) fun hsp=>?_)
 refine WP_count [(6,11),(21,83)] 0 o.length (Nat.zero_le _) (fun H0 i fr h'=>fr 21=.int .i64 (i:Int)∧∃ bv,Ext ((h++[⟨.cells [.int .i64 L.R,.int .i64 L.T,pv,sv] 62 false false,0⟩])++[rowE encM 244 (deskN L (o.take i)).2 0]++[deskB L pv sv bv (.slice (some ⟨h.length+1,0,0⟩) L.ps.length L.ps.length)]) h'∧Own encI 3 (h.length+3) h' bv (deskN L (o.take i)).1) ?_ ?_ ?_
 ·refine ⟨by (simp (disch:=first|exact dq|fail) only [go_sem,↓reduceIte,Int.natCast_zero];first|done|rfl),.slice none 0 0,?_,Own.nil⟩
  have e:=rep_flat (E:=encM) (x:=List.replicate 12 false) L.ps.length
  have e2:(deskN L (o.take 0)).2=List.replicate L.ps.length (List.replicate 12 false):=rfl
  rw [e2,rowE,← e]
  exact .refl
 ·rintro i fr H hi0 hi hA ⟨r21,bv,xH,hOw⟩
  have p2:=hA 2 rfl
  have p4:=hA 4 rfl
  have p5:=hA 5 rfl
  have p19:=hA 19 rfl
  have p20:=hA 20 rfl
  try simp (disch:=first|exact dq|fail) only [go_sem,↓reduceIte] at p2 p4 p5 p19 p20
  have hlt:((i:Int)<(o.length:Int))=True:=eq_true (by omega)
  have xh:Ext h H:=Ext.trans (.app (.app (.app .refl))) xH
  have hO2:=hO.ext xh
  have hS2:=hS.ext xh
  have hx:=hoi (o.getD i 0) (by rw [List.getD_eq_getElem?_getD,List.getElem?_eq_getElem hi];exact List.getElem_mem hi)
  have had:=hS2.addr (P:=prog) (i:=o.getD i 0) Fc.el60 Fc.ar60 hx.1 hx.2
  have hs:L.ss[(o.getD i 0).toNat]?=some L.ss[(o.getD i 0).toNat]:=List.getElem?_eq_getElem (by omega)
  have hld:=hS2.load (P:=prog) Fc.ty113 hs
  have hg0:H[h.length]?=some ⟨.cells [.int .i64 L.R,.int .i64 L.T,pv,sv] 62 false false,0⟩:=xH.get (by simp)
  have hg2:H[h.length+1+1]?=some ⟨.cells [.int .i64 L.R,.int .i64 L.T,pv,sv,bv,.slice (some ⟨h.length+1,0,0⟩) L.ps.length L.ps.length] 232 false false,0⟩:=xH.get (by rw [List.getElem?_append_right (by simp)];simp [deskB])
  have hHl:=xH.len
  simp only [List.length_append,List.length_cons,List.length_nil] at hHl
  simp only [encS] at hld had
  generalize hsq:L.ss[(o.getD i 0).toNat]=s at hs hld
  have hnc:∀ {a b c:Nat},nilCheckA (.ptr (some ⟨a,b,c⟩))=some (.ptr (some ⟨a,b,c⟩)):=rfl
  cases hbd:s.bad with
  | true =>
   rw [hbd] at hld
   have hdl:=(deskN_len (L:=L) (o.take i)).2.2
   rw [List.length_take] at hdl
   obtain ⟨v',h',ea,hO',hle,hE,h1'⟩:=(hOw.app (T:=[⟨.cells [.int .i64 s.rib,.int .i64 s.lo,.int .i64 s.hi,.bool true] 113 false false,0⟩])).append1 (y:=o.getD i 0) (base:=base) (t:=35) rfl rfl Fc.el35 encI_sc (by omega) (by simp only [List.length_append,List.length_cons,List.length_nil];omega) (by omega)
   have xG:=hE _ (by simp only [List.length_append,List.length_cons,List.length_nil];omega) (Ext.app xH)
   have hg3:h'[h.length+1+1]?=some ⟨.cells [.int .i64 L.R,.int .i64 L.T,pv,sv,bv,.slice (some ⟨h.length+1,0,0⟩) L.ps.length L.ps.length] 232 false false,0⟩:=xG.get (by rw [List.getElem?_append_right (by simp)];simp [deskB])
   have hge:base≤h.length+1+1:=by omega
   have hsp:=@Nat.succ_ne_zero;repeat' (first|simp (disch:=first|exact dq|fail) only [go_sem,↓reduceIte,hsp,r21,p20,p19,p2,p5,hlt,had,hld,hg0,hg2,hnc,ea,hg3,hge]|refine WP_drw ?_|refine cnd_intro (fun hsp=>?_) fun hsp=>?_)
   have e:deskN L (o.take (i+1))=((deskN L (o.take i)).1++[o.getD i 0],(deskN L (o.take i)).2):=by
    rw [deskN_succ hi];simp only [deskS,hs,hbd,if_true]
   refine ⟨agq,by omega,v',?_,?_⟩
   ·rw [e]
    have q:=xG.set2 (i:=h.length+1+1) (k:=deskB L pv sv v' (.slice (some ⟨h.length+1,0,0⟩) L.ps.length L.ps.length)) (by simp)
    rw [List.set_append_right _ _ (by simp)] at q
    simpa [deskB] using q
   ·rw [e]
    exact hO'.set (by omega)
  | false =>
   rw [hbd] at hld
   have hnH:∀ {T:Heap},lenOpA prog (H++T) 59 pv=some (.int .i64 (L.ps.length:Int)):=fun {T}=>(hP.ext (.app xh)).len
   have hsp:=@Nat.succ_ne_zero;repeat' (first|simp (disch:=first|exact dq|fail) only [go_sem,↓reduceIte,hsp,r21,p20,p19,p2,p5,hlt,had,hld,hg0,hg2,hnc,hnH]|refine WP_drw ?_|refine cnd_intro (fun hsp=>?_) fun hsp=>?_)
   refine WP_count [(9,11),(45,82)] 0 L.ps.length (Nat.zero_le _) (fun H0 k fr h'=>fr 45=.int .i64 (k:Int)∧Ext ((h++[⟨.cells [.int .i64 L.R,.int .i64 L.T,pv,sv] 62 false false,0⟩])++[rowE encM 244 (markN L.ps s.rib s.lo.toNat (s.hi+1-s.lo).toNat (deskN L (o.take i)).2 k) 0]++[deskB L pv sv bv (.slice (some ⟨h.length+1,0,0⟩) L.ps.length L.ps.length)]) h'∧h'[H.length]?=some ⟨.cells [.int .i64 s.rib,.int .i64 s.lo,.int .i64 s.hi,.bool false] 113 false false,0⟩∧Own encI 3 (h.length+3) h' bv (deskN L (o.take i)).1) ?_ ?_ ?_
   ·exact ⟨by (simp (disch:=first|exact dq|fail) only [go_sem,↓reduceIte,Int.natCast_zero];first|done|rfl),Ext.app xH,by simp,hOw.app⟩
   ·rintro k fr2 H2 hk0 hk hA2 ⟨r45,xH2,hsg,hOw2⟩
    have q2:=hA2 2 rfl
    have q4:=hA2 4 rfl
    have q5:=hA2 5 rfl
    have q8:=hA2 8 rfl
    have q19:=hA2 19 rfl
    have q20:=hA2 20 rfl
    have q21:=hA2 21 rfl
    have q43:=hA2 43 rfl
    have q44:=hA2 44 rfl
    try simp (disch:=first|exact dq|fail) only [go_sem,↓reduceIte,p2,p4,p5,p19,p20] at q2 q4 q5 q8 q19 q20 q21 q43 q44
    have xh2:Ext h H2:=Ext.trans (.app (.app (.app .refl))) xH2
    have ⟨vs,hR0,hvl,h3⟩:=hP
    have hR:=hR0.ext xh2
    have hx2:vs[k]?=some vs[k]:=List.getElem?_eq_getElem (by omega)
    obtain ⟨j1,j2,j3,j4⟩:=h3 k _ _ hx2 (List.getElem?_eq_getElem hk)
    have had2:=hR.addr (P:=prog) (i:=(k:Int)) Fc.el59 Fc.ar59 (by omega) (by omega)
    rw [Int.toNat_natCast] at had2
    have hld2:loadP prog H2 58 (elAdr pv encP.z k 0)=some (.agg [vs[k].v,.int .i64 L.ps[k].each,.int .i64 L.ps[k].ph,.bool L.ps[k].wv]):=by
     rw [hR.load Fc.ty58 hx2]
     show some (AVal.agg [norm vs[k].v,.int .i64 vs[k].each,.int .i64 vs[k].ph,.bool vs[k].wv])=_
     rw [norm_one j1.one,j2,j3,j4]
    have hlt2:((k:Int)<(L.ps.length:Int))=True:=eq_true (by omega)
    have ho3:=j1.one
    have hH2:=xh2.len
    have hbl:base≤H2.length:=by omega
    have hsg2:∀ {T:Heap},(H2++T)[H.length]?=some ⟨.cells [.int .i64 s.rib,.int .i64 s.lo,.int .i64 s.hi,.bool false] 113 false false,0⟩:=fun {T}=>(Ext.app (t:=T) Ext.refl).get hsg
    have hsp:=@Nat.succ_ne_zero;repeat' (first|simp (disch:=first|exact dq|fail) only [go_sem,↓reduceIte,hsp,r45,q2,q4,q5,q8,q19,q20,q21,q43,q44,had2,hld2,hlt2,hsg2]|refine WP_drw ?_|refine cnd_intro (fun hsp=>?_) fun hsp=>?_)
    obtain ⟨ms,ems⟩:∃ ms,ms=markN L.ps s.rib s.lo.toNat (s.hi+1-s.lo).toNat (deskN L (o.take i)).2 k:=⟨_,rfl⟩
    rw [← ems] at xH2
    have hsb:=hss s (List.mem_of_getElem? hs)
    have hpb:=hps _ (List.getElem_mem hk)
    obtain ⟨dl1,dl2,_⟩:=deskN_len (L:=L) (o.take i)
    have hml:ms.length=L.ps.length:=by rw [ems,markN_len];exact dl1
    have hma:∀ m ∈ ms,m.length=12:=by rw [ems];exact markN_all dl1.symm dl2 k
    have hmk:(ms.getD k []).length=12:=hma _ (by rw [List.getD_eq_getElem?_getD,List.getElem?_eq_getElem (by omega)];exact List.getElem_mem _)
    have hgm:H2[h.length+1]?=some (rowE encM 244 ms 0):=xH2.get (by simp)
    have hgd:H2[h.length+1+1]?=some ⟨.cells [.int .i64 L.R,.int .i64 L.T,pv,sv,bv,.slice (some ⟨h.length+1,0,0⟩) L.ps.length L.ps.length] 232 false false,0⟩:=xH2.get (by rw [List.getElem?_append_right (by simp)];simp [deskB])
    have hgk:ms[k]?=some (ms.getD k []):=by rw [List.getD_eq_getElem?_getD,List.getElem?_eq_getElem (by omega)];rfl
    obtain ⟨m0,em0⟩:∃ m0,m0=ms.getD k []:=⟨_,rfl⟩
    rw [← em0] at hgk hmk
    refine WP_count [(11,11),(53,81)] 0 (s.hi+1-s.lo).toNat (Nat.zero_le _) (fun H0 n fr h'=>fr 11=.int .i64 (s.lo+(n:Int))∧Ext (H0.set (h.length+1) (rowE encM 244 (ms.set k (mark1 L.ps[k] s.rib s.lo.toNat m0 n)) 0)) h') ?_ ?_ ?_
    ·refine ⟨by simp (disch:=first|exact dq|fail) only [go_sem,↓reduceIte,Int.natCast_zero,Int.add_zero],?_⟩
     have e1:ms.set k (mark1 L.ps[k] s.rib s.lo.toNat m0 0)=ms:=by
      have:=(List.getElem?_eq_some_iff.1 hgk).2
      rw [mark1,← this,List.set_getElem_self]
     rw [e1,set_id (by rw [List.getElem?_append_left (lt_of_get hgm)];exact hgm)]
     exact .refl
    ·rintro n fr3 H3 hn0 hn hA3 ⟨r11,xH3⟩
     have w2:=hA3 2 rfl
     have w4:=hA3 4 rfl
     have w5:=hA3 5 rfl
     have w8:=hA3 8 rfl
     have w9:=hA3 9 rfl
     have w10:=hA3 10 rfl
     have w19:=hA3 19 rfl
     have w20:=hA3 20 rfl
     have w21:=hA3 21 rfl
     have w43:=hA3 43 rfl
     have w44:=hA3 44 rfl
     have w45:=hA3 45 rfl
     try simp (disch:=first|exact dq|fail) only [go_sem,↓reduceIte,q2,q4,q5,q8,q19,q20,q21,q43,q44] at w2 w4 w5 w8 w9 w10 w19 w20 w21 w43 w44 w45
     have hlm:=lt_of_get hgm
     have hls:=lt_of_get hsg
     have hg8:H3[H.length]?=some ⟨.cells [.int .i64 s.rib,.int .i64 s.lo,.int .i64 s.hi,.bool false] 113 false false,0⟩:=xH3.get (by rw [List.getElem?_set_ne (by omega)];exact hsg2)
     have hg10:H3[H2.length]?=some ⟨.cells [vs[k].v,.int .i64 L.ps[k].each,.int .i64 L.ps[k].ph,.bool L.ps[k].wv] 58 false false,0⟩:=xH3.get (by rw [List.getElem?_set_ne (by omega)];simp)
     have hg5:H3[h.length+1+1]?=some ⟨.cells [.int .i64 L.R,.int .i64 L.T,pv,sv,bv,.slice (some ⟨h.length+1,0,0⟩) L.ps.length L.ps.length] 232 false false,0⟩:=xH3.get (by rw [List.getElem?_set_ne (by omega),List.getElem?_append_left (lt_of_get hgd)];exact hgd)
     have hgn:H3[h.length+1]?=some (rowE encM 244 (ms.set k (mark1 L.ps[k] s.rib s.lo.toNat m0 n)) 0):=xH3.get (by rw [List.getElem?_set_self (by simp;omega)])
     have hlt3:(s.lo+(n:Int)≤s.hi)=True:=eq_true (by omega)
     have hrem:binA prog .rem 3 (.int .i64 (s.lo+(n:Int))) (.int .i64 L.ps[k].each)=some (.int .i64 ((s.lo+(n:Int)).tmod L.ps[k].each)):=bin_rem (by omega)
     have hIr:Ints H3 vs[k].v L.ps[k].rib:=j1.ext (((Ext.app xh2).set (by omega)).trans xH3)
     have en:((s.lo.toNat+n:Nat):Int)=s.lo+(n:Int):=by omega
     have hct:=fun base=>run_contains (base:=base) (x:=s.rib) hIr
     by_cases ht:(s.lo+(n:Int)).tmod L.ps[k].each=L.ps[k].ph
     ·have t1:((s.lo+(n:Int)).tmod L.ps[k].each=L.ps[k].ph)=True:=eq_true ht
      by_cases hm:s.rib ∈ L.ps[k].rib
      ·have t2:(s.rib ∈ L.ps[k].rib)=True:=eq_true hm
       have ha1:indexAddrA prog 230 (.slice (some ⟨h.length+1,0,0⟩) L.ps.length L.ps.length) (.int .i64 (k:Int))=some (.ptr (some ⟨h.length+1,0,k * 12⟩)):=by
        rw [adr_sl Fc.el230 Fc.ar230 (by omega) (by omega),Nat.zero_add,Int.toNat_natCast]
       have ha2:indexAddrA prog 244 (.ptr (some ⟨h.length+1,0,k * 12⟩)) (.int .i64 (s.lo+(n:Int)))=some (.ptr (some ⟨h.length+1,0,k * 12+(s.lo.toNat+n)⟩)):=by
        rw [adr_arr Fc.ar244 (by omega) (by omega),show (s.lo+(n:Int)).toNat * 1=s.lo.toNat+n by omega]
       have hst:∀ {K:ABlk→Heap},stQ base (h.length+1) H3[h.length+1]? 0 (k * 12+(s.lo.toNat+n)) [.bool true] K=some (K (rowE encM 244 ((ms.set k (mark1 L.ps[k] s.rib s.lo.toNat m0 n)).set k ((mark1 L.ps[k] s.rib s.lo.toNat m0 n).set (s.lo.toNat+n) true)) 0)):=fun {K}=>by
        rw [hgn]
        exact stQ_mark (by rw [List.getElem?_set_self (by omega)]) (by rw [mark1_len];exact hmk) (by omega)
       have hsp:=@Nat.succ_ne_zero;repeat' (first|simp (disch:=first|exact dq|fail) only [go_sem,↓reduceIte,hsp,r11,w2,w4,w5,w8,w9,w10,w19,w20,w21,w43,w44,w45,hg8,hg10,hlt3,hrem,t1,hct,t2,hnc,hg5,ha1,ha2,hst]|refine WP_drw ?_|refine cnd_intro (fun hsp=>?_) fun hsp=>?_)
       refine ⟨agq,by omega,?_⟩
       rw [mark1_pos ⟨by rw [en,ht],hm⟩]
       have q:=xH3.set2 (i:=h.length+1) (k:=rowE encM 244 ((ms.set k (mark1 L.ps[k] s.rib s.lo.toNat m0 n)).set k ((mark1 L.ps[k] s.rib s.lo.toNat m0 n).set (s.lo.toNat+n) true)) 0) (by simp;omega)
       rw [List.set_set,List.set_set] at q
       rw [set_lt hlm] at q
       simpa only [List.set_set] using q
      ·have t2:(s.rib ∈ L.ps[k].rib)=False:=eq_false hm
       have hsp:=@Nat.succ_ne_zero;repeat' (first|simp (disch:=first|exact dq|fail) only [go_sem,↓reduceIte,hsp,r11,w2,w4,w5,w8,w9,w10,w19,w20,w21,w43,w44,w45,hg8,hg10,hlt3,hrem,t1,hct,t2]|refine WP_drw ?_|refine cnd_intro (fun hsp=>?_) fun hsp=>?_)
       refine ⟨agq,by omega,?_⟩
       rw [mark1_neg fun e=>hm e.2]
       rw [set_lt hlm] at xH3
       exact xH3
     ·have t1:((s.lo+(n:Int)).tmod L.ps[k].each=L.ps[k].ph)=False:=eq_false ht
      have hsp:=@Nat.succ_ne_zero;repeat' (first|simp (disch:=first|exact dq|fail) only [go_sem,↓reduceIte,hsp,r11,w2,w4,w5,w8,w9,w10,w19,w20,w21,w43,w44,w45,hg8,hg10,hlt3,hrem,t1,hct]|refine WP_drw ?_|refine cnd_intro (fun hsp=>?_) fun hsp=>?_)
      refine ⟨agq,by omega,?_⟩
      rw [mark1_neg fun e=>ht (by rw [← e.1,en])]
      rw [set_lt hlm] at xH3
      exact xH3
    ·rintro fr3 H3 hA3 ⟨r11,xH3⟩
     have w2:=hA3 2 rfl
     have w4:=hA3 4 rfl
     have w5:=hA3 5 rfl
     have w8:=hA3 8 rfl
     have w9:=hA3 9 rfl
     have w10:=hA3 10 rfl
     have w19:=hA3 19 rfl
     have w20:=hA3 20 rfl
     have w21:=hA3 21 rfl
     have w43:=hA3 43 rfl
     have w44:=hA3 44 rfl
     have w45:=hA3 45 rfl
     try simp (disch:=first|exact dq|fail) only [go_sem,↓reduceIte,q2,q4,q5,q8,q19,q20,q21,q43,q44] at w2 w4 w5 w8 w9 w10 w19 w20 w21 w43 w44 w45
     have hlm:=lt_of_get hgm
     have hls:=lt_of_get hsg
     have hg8:H3[H.length]?=some ⟨.cells [.int .i64 s.rib,.int .i64 s.lo,.int .i64 s.hi,.bool false] 113 false false,0⟩:=xH3.get (by rw [List.getElem?_set_ne (by omega)];exact hsg2)
     have hlt3:(s.lo+(((s.hi+1-s.lo).toNat:Nat):Int)≤s.hi)=False:=eq_false (by omega)
     have w45:=hA3 45 rfl;simp (disch:=first|exact dq|fail) only [go_sem,↓reduceIte,r45] at w45
     have w21:=hA3 21 rfl;simp (disch:=first|exact dq|fail) only [go_sem,↓reduceIte] at w21
     have hsp:=@Nat.succ_ne_zero;repeat' (first|simp (disch:=first|exact dq|fail) only [go_sem,↓reduceIte,hsp,r11,w2,w4,w5,w8,w9,w10,w19,w20,w21,w43,w44,w45,hg8,hlt3]|refine WP_drw ?_|refine cnd_intro (fun hsp=>?_) fun hsp=>?_)
     have e:markN L.ps s.rib s.lo.toNat (s.hi+1-s.lo).toNat (deskN L (o.take i)).2 (k+1)=ms.set k (mark1 L.ps[k] s.rib s.lo.toNat m0 (s.hi+1-s.lo).toNat):=by
      simp only [markN,List.getElem?_eq_getElem hk,← ems,← em0]
     rw [e]
     refine ⟨agq,by omega,Ext.trans (ext_mid xH2.app rfl) xH3,?_⟩
     exact (hOw2.app.set (by omega)).ext xH3
   ·rintro fr2 H2 hA2 ⟨r45,xH2,hsg,hOw2⟩
    have p44:=hA2 44 rfl;simp (disch:=first|exact dq|fail) only [go_sem,↓reduceIte] at p44
    have hlt2:((L.ps.length:Int)<(L.ps.length:Int))=False:=eq_false (by omega)
    have p21:=hA2 21 rfl;simp (disch:=first|exact dq|fail) only [go_sem,↓reduceIte] at p21
    rw [r21] at p21
    have hsp:=@Nat.succ_ne_zero;repeat' (first|simp (disch:=first|exact dq|fail) only [go_sem,↓reduceIte,hsp,r45,p44,p21,hlt2]|refine WP_drw ?_|refine cnd_intro (fun hsp=>?_) fun hsp=>?_)
    have e:deskN L (o.take (i+1))=((deskN L (o.take i)).1,markN L.ps s.rib s.lo.toNat (s.hi+1-s.lo).toNat (deskN L (o.take i)).2 L.ps.length):=by
     rw [deskN_succ hi];simp only [deskS,hs,hbd,Bool.false_eq_true,if_false]
    rw [e]
    refine ⟨agq,by omega,bv,xH2,hOw2⟩
 ·rintro fr H hA ⟨r21,bv,xH,hOw⟩
  have p20:=hA 20 rfl;simp (disch:=first|exact dq|fail) only [go_sem,↓reduceIte] at p20
  have p5:=hA 5 rfl;simp (disch:=first|exact dq|fail) only [go_sem,↓reduceIte] at p5
  have hlt:((o.length:Int)<(o.length:Int))=False:=eq_false (by omega)
  have hsp:=@Nat.succ_ne_zero;repeat' (first|simp (disch:=first|exact dq|fail) only [go_sem,↓reduceIte,hsp,r21,p20,p5,hlt]|refine WP_drw ?_|refine cnd_intro (fun hsp=>?_) fun hsp=>?_)
  rw [List.take_length] at hOw xH
  exact ⟨Ext.trans (.app (.app (.app .refl))) xH,bv,_,xH.get (by simp),hOw,rfl,xH.get (by simp)⟩
end F4
end Go.AM
