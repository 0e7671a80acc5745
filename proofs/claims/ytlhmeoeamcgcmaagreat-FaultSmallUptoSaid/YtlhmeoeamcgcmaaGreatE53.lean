/-
  Contracts: the reference's error of a loom.
-/
import Derived.Test.YtlhmeoeamcgcmaaGreatE52
set_option linter.unusedSimpArgs false
set_option linter.unusedVariables false
namespace Go.AM
open Go.Proofs.Tryz
attribute [-go_sem] put_ne put_same
attribute [local go_sem ↓] put_if
theorem run_off {base:Nat} {h:Heap} {n lo hi:Int}:callL prog raw base (.fn 68 [] []) [.int .i64 n,.int .i64 lo,.int .i64 hi] h=some (.bool (decide (n<lo ∨ n > hi)),h):=by
 refine callL_run func68 rfl rfl ?_
 by_cases c1:n<lo
 ·have t1:(n<lo)=True:=eq_true c1
  have hsp:=@Nat.succ_ne_zero;repeat' (first|simp (disch:=first|exact dq|fail) only [go_sem,↓reduceIte,hsp,t1]|refine WP_drw ?_|refine cnd_intro (fun hsp=>?_) fun hsp=>?_)
  refine fB ?_
  simp
 ·have t1:(n<lo)=False:=eq_false c1
  by_cases c2:n > hi
  ·have t2:(n > hi)=True:=eq_true c2
   have hsp:=@Nat.succ_ne_zero;repeat' (first|simp (disch:=first|exact dq|fail) only [go_sem,↓reduceIte,hsp,t1,t2]|refine WP_drw ?_|refine cnd_intro (fun hsp=>?_) fun hsp=>?_)
   refine fB ?_
   simp
  ·have t2:(n > hi)=False:=eq_false c2
   have hsp:=@Nat.succ_ne_zero;repeat' (first|simp (disch:=first|exact dq|fail) only [go_sem,↓reduceIte,hsp,t1,t2]|refine WP_drw ?_|refine cnd_intro (fun hsp=>?_) fun hsp=>?_)
   refine fB ?_
   simp
theorem Parts.lenR {h:Heap} {v:AVal} {ps:List Prt} (x:Parts h v ps):lenOpA prog h 29 v=some (.int .i64 (ps.length:Int)):=by
 obtain ⟨vs,h1,h2,_⟩:=x
 have:=h1.len (P:=prog) Fc.el29
 rwa [h2] at this
theorem Parts.atR {h:Heap} {pv:AVal} {ps:List Prt} {k:Nat} {p:Prt} (hP:Parts h pv ps) (hp:ps[k]?=some p):∃ a r,indexAddrA prog 29 pv (.int .i64 (k:Int))=some a∧(∀ H,Ext h H→loadP prog H 125 a=some (.agg [r,.int .i64 p.each,.int .i64 p.ph,.bool p.wv]))∧Ints h r p.rib:=by
 obtain ⟨vs,hR,hvl,h3⟩:=hP
 have hkl:k<ps.length:=(List.getElem?_eq_some_iff.1 hp).1
 have hx:vs[k]?=some vs[k]:=List.getElem?_eq_getElem (by omega)
 obtain ⟨q1,q2,q3,q4⟩:=h3 k _ _ hx hp
 have had:=hR.addr (P:=prog) (i:=(k:Int)) Fc.el29 Fc.ar29 (by omega) (by omega)
 rw [Int.toNat_natCast] at had
 refine ⟨_,vs[k].v,had,fun H e=>?_,q1⟩
 rw [(hR.ext e).load Fc.ty125 hx]
 show some (AVal.agg [norm vs[k].v,.int .i64 vs[k].each,.int .i64 vs[k].ph,.bool vs[k].wv])=_
 rw [norm_one q1.one,q2,q3,q4]
def drop1 (l:List Int) (k:Nat):Bool:=decide (0<k∧l.getD k 0≤l.getD (k-1) 0)
def dropA (l:List Int) (j:Nat):Bool:=(List.range j).any (drop1 l)
theorem dropA_succ {l:List Int} {j:Nat}:dropA l (j+1)=(dropA l j || drop1 l j):=by
 unfold dropA
 rw [List.range_succ,List.any_append,List.any_cons,List.any_nil,Bool.or_false]
theorem dropA_rise {l:List Int}:dropA l l.length=!riseB l:=by
 rw [Bool.eq_iff_iff]
 unfold dropA riseB drop1
 simp only [List.any_eq_true,List.mem_range,decide_eq_true_eq,Bool.not_eq_true',decide_eq_false_iff_not,Classical.not_forall]
 constructor
 ·rintro ⟨k,hk,h0,h1⟩;exact ⟨k,hk,h0,by omega⟩
 ·rintro ⟨k,hk,h0,h1⟩;exact ⟨k,hk,h0,by omega⟩
def eachOk (p:Prt):Bool:=decide ((1≤p.each∧p.each≤4)∧(0≤p.ph∧p.ph≤p.each-1))
def inRb (R r:Int):Bool:=decide (0≤r∧r≤R-1)
def sgIn (L:Lom) (s:Sgt):Bool:=decide ((0≤s.rib∧s.rib≤L.R-1)∧(0≤s.lo∧s.lo≤L.T-1)∧(0≤s.hi∧s.hi≤L.T-1))
theorem any_take_succ {α:Type} (f:α→Bool) {l:List α} {n:Nat} {x:α} (h:l[n]?=some x):(l.take (n+1)).any f=((l.take n).any f || f x):=by
 rw [List.take_add_one,h,List.any_append]
 simp
theorem any_not {α:Type} (f:α→Bool) {l:List α}:(l.any fun x=>!f x)=!l.all f:=by
 induction l with
 | nil=>rfl
 | cons x l ih=>simp only [List.any_cons,List.all_cons,ih,Bool.not_and]
theorem chk_flags {L:Lom} (c1:1≤L.R∧L.R≤6) (c2:1≤L.T∧L.T≤12) (c3:1≤(L.ps.length:Int)∧(L.ps.length:Int)≤6) (c4:¬ (L.ss.length:Int) > 10) (hall:∀ p ∈ L.ps,0<p.rib.length) :
  chkM L=if (L.ps.any fun p=>!eachOk p)=true then 3 else if ((L.ps.any fun p=>!p.rib.all (inRb L.R)) || L.ss.any fun s=>!sgIn L s)=true then 1 else if ((L.ps.any fun p=>!riseB p.rib) || L.ss.any fun s=>!decide (s.lo≤s.hi))=true then 4 else 0:=by
 have h0:(L.ps.all fun p=>decide (0<p.rib.length))=true:=List.all_eq_true.2 fun p hp=>decide_eq_true (hall p hp)
 unfold chkM
 rw [if_neg (by rintro (w|w|w|w|w);exact w c1;exact w c2;exact w c3;exact c4 w;exact w h0)]
 simp only [any_not]
 have f1:(L.ps.all fun p=>decide ((1≤p.each∧p.each≤4)∧(0≤p.ph∧p.ph≤p.each-1)))=L.ps.all eachOk:=rfl
 have f2:(L.ps.all fun p=>p.rib.all fun r=>decide (0≤r∧r≤L.R-1))=L.ps.all fun p=>p.rib.all (inRb L.R):=rfl
 have f3:(L.ss.all fun s=>decide ((0≤s.rib∧s.rib≤L.R-1)∧(0≤s.lo∧s.lo≤L.T-1)∧(0≤s.hi∧s.hi≤L.T-1)))=L.ss.all (sgIn L):=rfl
 rw [f1,f2,f3]
 cases L.ps.all eachOk<;>cases L.ps.all (fun p=>p.rib.all (inRb L.R))<;>cases L.ss.all (sgIn L)<;>cases L.ps.all (fun p=>riseB p.rib)<;>cases L.ss.all (fun s=>decide (s.lo≤s.hi))<;>rfl
theorem stE53 {base:Nat} {l:List Oper} {s:St} {Q:AExit→St→Prop}:WP prog raw base (.region 10 l.toArray false) s Q=WPS prog raw base (.region 10 l.toArray false) s Q:=WP_stop
attribute [local go_sem ↓ 3000] stE53
set_option maxHeartbeats 8000000 in
theorem run_chkR {base:Nat} {h:Heap} {v:AVal} {L:Lom} (hL:LomAt h v L) (hpl:L.ps.length≤1000) (hsl:L.ss.length≤1000) (hr:∀ p ∈ L.ps,p.rib.length≤1000) :
  callL prog raw base (.fn 15 [] []) [v] h=some (.int .i64 (chkM L),h):=by
 obtain ⟨pv,sv,rfl,hP,hS⟩:=hL
 have o1:=hP.one
 have o2:=hS.one
 have l1:∀ {a:ABlk},lenOpA prog (h++[a]) 29 pv=some (.int .i64 (L.ps.length:Int)):=fun {a}=>(hP.ext (.app .refl)).lenR
 have l2:∀ {a:ABlk},lenOpA prog (h++[a]) 30 sv=some (.int .i64 (L.ss.length:Int)):=fun {a}=>(hS.ext (.app .refl)).len Fc.el30
 refine callL_run func15 rfl rfl ?_
 by_cases c1:1≤L.R∧L.R≤6
 ·have t1:(L.R<1 ∨ L.R > 6)=False:=eq_false (by omega)
  by_cases c2:1≤L.T∧L.T≤12
  ·have t2:(L.T<1 ∨ L.T > 12)=False:=eq_false (by omega)
   by_cases c3:1≤(L.ps.length:Int)∧(L.ps.length:Int)≤6
   ·have t3:((L.ps.length:Int)<1 ∨ (L.ps.length:Int) > 6)=False:=eq_false (by omega)
    by_cases c4:(L.ss.length:Int) > 10
    ·have t4:((L.ss.length:Int) > 10)=True:=eq_true c4
     have r:chkM L=2:=by unfold chkM;rw [if_pos (.inr (.inr (.inr (.inl c4))))]
     rw [r]
     have hsp:=@Nat.succ_ne_zero;repeat' (first|simp (disch:=first|exact dq|fail) only [go_sem,↓reduceIte,hsp,run_off,t1,t2,t3,t4,l1,l2]|refine WP_drw ?_|refine cnd_intro (fun hsp=>?_) fun hsp=>?_)
     exact fI rfl
    ·have t4:((L.ss.length:Int) > 10)=False:=eq_false c4
     have hsp:=@Nat.succ_ne_zero;repeat' (first|simp (disch:=first|exact dq|fail) only [go_sem,↓reduceIte,hsp,run_off,t1,t2,t3,t4,l1,l2]|refine WP_drw ?_|refine cnd_intro (fun hsp=>?_) fun hsp=>?_)
     obtain ⟨H0,eH0⟩:∃ H0,H0=h++[(⟨.cells [.int .i64 L.R,.int .i64 L.T,pv,sv] 32 false false,0⟩:ABlk)]:=⟨_,rfl⟩
     rw [← eH0]
     have xh0:Ext h H0:=by rw [eH0];exact .app .refl
     have g0:H0[h.length]?=some (rlB L.R L.T pv sv):=by rw [eH0];exact get_eq rfl
     unfold rlB at g0
     refine WP_count [(2,98)] 0 L.ps.length (Nat.zero_le _) (fun _ i fr h'=>fr 6=.int .i64 (i:Int)∧Ext H0 h'∧(∃ b3 b4 b5,fr 3=.bool b3∧fr 4=.bool b4∧fr 5=.bool b5∧b3=((L.ps.take i).any fun p=>!eachOk p)∧b4=((L.ps.take i).any fun p=>!p.rib.all (inRb L.R))∧b5=((L.ps.take i).any fun p=>!riseB p.rib))∧∀ j,j<i→0<(L.ps.getD j prt0).rib.length) ?_ ?_ ?_
     ·exact ⟨by (simp (disch:=first|exact dq|fail) only [go_sem,↓reduceIte,Int.natCast_zero];first|done|rfl),.refl,⟨false,false,false,by simp (disch:=first|exact dq|fail) only [go_sem,↓reduceIte],by simp (disch:=first|exact dq|fail) only [go_sem,↓reduceIte],by simp (disch:=first|exact dq|fail) only [go_sem,↓reduceIte],by simp,by simp,by simp⟩,fun j hj=>by omega⟩
     ·rintro i fr H hi0 hi hA ⟨r6,xH,⟨b3,b4,b5,r3,r4,r5,e3,e4,e5⟩,hne⟩
      have p1:=hA 1 rfl
      try simp (disch:=first|exact dq|fail) only [go_sem,↓reduceIte] at p1
      obtain ⟨R5,eR5,hA5⟩:=hA.name
      rw [← eR5]
      have hlt:((i:Int)<(L.ps.length:Int))=True:=eq_true (by omega)
      have xh:=xh0.trans xH
      have hhl:=xh.len
      have gH:=xH.get g0
      have l3:=(hP.ext xh).lenR
      obtain ⟨q,eq⟩:∃ q,q=L.ps.getD i prt0:=⟨_,rfl⟩
      have hq:L.ps[i]?=some q:=by rw [eq];exact getD_some hi
      have hqm:=List.mem_of_getElem? hq
      have hql:=hr q hqm
      obtain ⟨a1,w1,ad1,ld1,i1⟩:=(hP.ext xh).atR hq
      have d10:=ld1 H .refl
      have d1:∀ {T:Heap},loadP prog (H++T) 125 a1=some (.agg [w1,.int .i64 q.each,.int .i64 q.ph,.bool q.wv]):=fun {T}=>ld1 _ (.app .refl)
      have hw1:=i1.one
      have hli:=(i1.ext (.app (t:=[prB w1 q.each q.ph q.wv]) .refl))
      unfold prB at hli
      by_cases c5:q.rib.length=0
      ·have t5:((q.rib.length:Int)=0)=True:=eq_true (by omega)
       have r:chkM L=2:=by
        have hz:¬ (L.ps.all fun p=>decide (0<p.rib.length))=true:=fun z=>by
         have:=of_decide_eq_true (List.all_eq_true.1 z q hqm)
         omega
        unfold chkM
        rw [if_pos (.inr (.inr (.inr (.inr hz))))]
       rw [r]
       have hsp:=@Nat.succ_ne_zero;repeat' (first|simp (disch:=first|exact dq|fail) only [go_sem,↓reduceIte,hsp,r6,p1,hlt,gH,l3,ad1,d10,d1,t5]|refine WP_drw ?_|refine cnd_intro (fun hsp=>?_) fun hsp=>?_)
       exact fI rfl (xh.trans (.app .refl))
      ·have t5:((q.rib.length:Int)=0)=False:=eq_false (by omega)
       have hsp:=@Nat.succ_ne_zero;repeat' (first|simp (disch:=first|exact dq|fail) only [go_sem,↓reduceIte,hsp,r6,p1,hlt,gH,l3,ad1,d10,d1,t5]|refine WP_drw ?_|refine cnd_intro (fun hsp=>?_) fun hsp=>?_)
       have z1:=p1
       have z3:=r3
       have z4:=r4
       have z5:=r5
       have z6:=r6
       obtain ⟨H1,eH1⟩:∃ H1,H1=H++[(⟨.cells [w1,.int .i64 q.each,.int .i64 q.ph,.bool q.wv] 125 false false,0⟩:ABlk)]:=⟨_,rfl⟩
       rw [← eH1]
       have xH1:Ext H H1:=by rw [eH1];exact .app .refl
       have xh1:=xh.trans xH1
       have hl1:H1.length=H.length+1:=by rw [eH1];simp
       have gH1:=xH1.get gH
       have gq1:H1[H.length]?=some ⟨.cells [w1,.int .i64 q.each,.int .i64 q.ph,.bool q.wv] 125 false false,0⟩:=by rw [eH1];exact get_eq rfl
       have iq1:=i1.ext xH1
       clear eH1
       refine WPS_restF fun Z eZ=>?_
       rw [WP_region]
       have kZ1:=congrFun eZ 1
       have kZ3:=congrFun eZ 3
       have kZ4:=congrFun eZ 4
       have kZ5:=congrFun eZ 5
       have kZ6:=congrFun eZ 6
       have kZ7:=congrFun eZ 7
       try simp (disch:=first|exact dq|fail) only [go_sem,↓reduceIte,z1,z3,z4,z5,z6] at kZ1 kZ3 kZ4 kZ5 kZ6 kZ7
       have aZ:Agree [(2,98)] Z R5:=by rw [eZ];exact agq
       clear eZ
       refine OPS_meet (fun fr h'=>Agree [(3,3),(47,60)] fr Z∧h'=H1∧fr 3=.bool (b3 || !eachOk q)) ?_ ?_
       ·rcases Bool.eq_false_or_eq_true b3 with q3|q3
        ·rw [q3] at kZ3 ⊢
         have hsp:=@Nat.succ_ne_zero;repeat' (first|simp (disch:=first|exact dq|fail) only [go_sem,↓reduceIte,hsp,kZ1,kZ3,kZ4,kZ5,kZ6,kZ7,gH1,gq1]|refine WP_drw ?_|refine cnd_intro (fun hsp=>?_) fun hsp=>?_)
         exact ⟨agq,by simp⟩
        ·rw [q3] at kZ3 ⊢
         by_cases u1:1≤q.each∧q.each≤4
         ·have v1:(q.each<1 ∨ q.each > 4)=False:=eq_false (by omega)
          by_cases u2:0≤q.ph∧q.ph≤q.each-1
          ·have v2:(q.ph<0 ∨ q.ph > q.each-1)=False:=eq_false (by omega)
           have v3:eachOk q=true:=decide_eq_true ⟨u1,u2⟩
           have hsp:=@Nat.succ_ne_zero;repeat' (first|simp (disch:=first|exact dq|fail) only [go_sem,↓reduceIte,hsp,kZ1,kZ3,kZ4,kZ5,kZ6,kZ7,gH1,gq1,run_off,v1,v2]|refine WP_drw ?_|refine cnd_intro (fun hsp=>?_) fun hsp=>?_)
           exact ⟨agq,by simp [v3]⟩
          ·have v2:(q.ph<0 ∨ q.ph > q.each-1)=True:=eq_true (by omega)
           have v3:eachOk q=false:=decide_eq_false (fun w=>u2 w.2)
           have hsp:=@Nat.succ_ne_zero;repeat' (first|simp (disch:=first|exact dq|fail) only [go_sem,↓reduceIte,hsp,kZ1,kZ3,kZ4,kZ5,kZ6,kZ7,gH1,gq1,run_off,v1,v2]|refine WP_drw ?_|refine cnd_intro (fun hsp=>?_) fun hsp=>?_)
           exact ⟨agq,by simp [v3]⟩
         ·have v1:(q.each<1 ∨ q.each > 4)=True:=eq_true (by omega)
          have v3:eachOk q=false:=decide_eq_false (fun w=>u1 w.1)
          have hsp:=@Nat.succ_ne_zero;repeat' (first|simp (disch:=first|exact dq|fail) only [go_sem,↓reduceIte,hsp,kZ1,kZ3,kZ4,kZ5,kZ6,kZ7,gH1,gq1,run_off,v1]|refine WP_drw ?_|refine cnd_intro (fun hsp=>?_) fun hsp=>?_)
          exact ⟨agq,by simp [v3]⟩
       ·rintro fr3 H3 ⟨hA3,eH3,r33⟩
        subst eH3
        have cc1:=hA3 1 rfl
        have cc4:=hA3 4 rfl
        have cc5:=hA3 5 rfl
        have cc6:=hA3 6 rfl
        have cc7:=hA3 7 rfl
        try simp (disch:=first|exact dq|fail) only [go_sem,↓reduceIte,kZ1,kZ4,kZ5,kZ6,kZ7] at cc1 cc4 cc5 cc6 cc7
        have hsp:=@Nat.succ_ne_zero;repeat' (first|simp (disch:=first|exact dq|fail) only [go_sem,↓reduceIte,hsp,r33,cc1,cc4,cc5,cc6,cc7,kZ1,kZ3,kZ4,kZ5,kZ6,kZ7]|refine WP_drw ?_|refine cnd_intro (fun hsp=>?_) fun hsp=>?_)
        refine WP_count [(4,5),(8,98)] 0 q.rib.length (Nat.zero_le _) (fun _ j fr h'=>fr 8=.int .i64 (j:Int)∧h'=H3∧∃ b4' b5',fr 4=.bool b4'∧fr 5=.bool b5'∧b4'=(b4 || (q.rib.take j).any fun r=>!inRb L.R r)∧b5'=(b5 || dropA q.rib j)) ?_ ?_ ?_
        ·exact ⟨by (simp (disch:=first|exact dq|fail) only [go_sem,↓reduceIte,Int.natCast_zero];first|done|rfl),rfl,b4,b5,by simp (disch:=first|exact dq|fail) only [go_sem,↓reduceIte,cc1,cc4,cc5,cc6,cc7,kZ1,kZ3,kZ4,kZ5,kZ6,kZ7],by simp (disch:=first|exact dq|fail) only [go_sem,↓reduceIte,cc1,cc4,cc5,cc6,cc7,kZ1,kZ3,kZ4,kZ5,kZ6,kZ7],by simp,by simp [dropA]⟩
        ·rintro j fr4 H4 hj0 hj hA4 ⟨r48,eH4,b4',b5',r44,r45,e44,e45⟩
         subst eH4
         have d1:=hA4 1 rfl
         have d2:=hA4 2 rfl
         have d3:=hA4 3 rfl
         have d6:=hA4 6 rfl
         have d7:=hA4 7 rfl
         try simp (disch:=first|exact dq|fail) only [go_sem,↓reduceIte,cc1,cc6,cc7] at d1 d2 d3 d6 d7
         have hlt2:((j:Int)<(q.rib.length:Int))=True:=eq_true (by omega)
         obtain ⟨r,er⟩:∃ r,r=q.rib.getD j 0:=⟨_,rfl⟩
         have hrj:q.rib[j]?=some r:=by rw [er];exact getD_some hj
         have fin:∀ {x y:Bool},x=(b4' || !inRb L.R r)→y=(b5' || drop1 q.rib j)→x=(b4 || (q.rib.take (j+1)).any fun r=>!inRb L.R r)∧y=(b5 || dropA q.rib (j+1)):=by
          intro x y hx hy
          rw [hx,hy,e44,e45,any_take_succ _ hrj,dropA_succ,Bool.or_assoc,Bool.or_assoc]
          exact ⟨rfl,rfl⟩
         have hjt:((j:Int)-1).toNat=j-1:=by omega
         rcases Bool.eq_false_or_eq_true b4' with qa|qa
         ·rw [qa] at r44 fin
          rcases Bool.eq_false_or_eq_true b5' with qb|qb
          ·rw [qb] at r45 fin
           have hsp:=@Nat.succ_ne_zero;repeat' (first|simp (disch:=first|exact dq|fail) only [go_sem,↓reduceIte,hsp,r48,r44,r45,d1,d2,d3,d6,d7,cc1,cc4,cc5,cc6,cc7,kZ1,kZ3,kZ4,kZ5,kZ6,kZ7,hlt2,gH1,gq1,run_off,hjt]|refine WP_drw ?_|refine cnd_intro (fun hsp=>?_) fun hsp=>?_)
           exact ⟨agq,by omega,_,_,rfl,rfl,fin (by simp) (by simp)⟩
          ·rw [qb] at r45 fin
           by_cases c0:0<j
           ·have tb:((j:Int) > 0)=True:=eq_true (by omega)
            by_cases c9:q.rib.getD j 0≤q.rib.getD (j-1) 0
            ·have vb:(q.rib.getD j 0≤q.rib.getD (j-1) 0)=True:=eq_true c9
             have dr:drop1 q.rib j=true:=decide_eq_true ⟨c0,c9⟩
             have hsp:=@Nat.succ_ne_zero;repeat' (first|simp (disch:=first|exact dq|fail) only [go_sem,↓reduceIte,hsp,r48,r44,r45,d1,d2,d3,d6,d7,cc1,cc4,cc5,cc6,cc7,kZ1,kZ3,kZ4,kZ5,kZ6,kZ7,hlt2,gH1,gq1,run_off,hjt,tb,vb]|refine WP_drw ?_|refine cnd_intro (fun hsp=>?_) fun hsp=>?_)
             exact ⟨agq,by omega,_,_,rfl,rfl,fin (by simp) (by simp [dr])⟩
            ·have vb:(q.rib.getD j 0≤q.rib.getD (j-1) 0)=False:=eq_false c9
             have dr:drop1 q.rib j=false:=decide_eq_false fun w=>c9 w.2
             have hsp:=@Nat.succ_ne_zero;repeat' (first|simp (disch:=first|exact dq|fail) only [go_sem,↓reduceIte,hsp,r48,r44,r45,d1,d2,d3,d6,d7,cc1,cc4,cc5,cc6,cc7,kZ1,kZ3,kZ4,kZ5,kZ6,kZ7,hlt2,gH1,gq1,run_off,hjt,tb,vb]|refine WP_drw ?_|refine cnd_intro (fun hsp=>?_) fun hsp=>?_)
             exact ⟨agq,by omega,_,_,rfl,rfl,fin (by simp) (by simp [dr])⟩
           ·have tb:((j:Int) > 0)=False:=eq_false (by omega)
            have dr:drop1 q.rib j=false:=decide_eq_false fun w=>c0 w.1
            have hsp:=@Nat.succ_ne_zero;repeat' (first|simp (disch:=first|exact dq|fail) only [go_sem,↓reduceIte,hsp,r48,r44,r45,d1,d2,d3,d6,d7,cc1,cc4,cc5,cc6,cc7,kZ1,kZ3,kZ4,kZ5,kZ6,kZ7,hlt2,gH1,gq1,run_off,hjt,tb]|refine WP_drw ?_|refine cnd_intro (fun hsp=>?_) fun hsp=>?_)
            exact ⟨agq,by omega,_,_,rfl,rfl,fin (by simp) (by simp [dr])⟩
         ·rw [qa] at r44 fin
          by_cases c8:0≤q.rib.getD j 0∧q.rib.getD j 0≤L.R-1
          ·have va:(q.rib.getD j 0<0 ∨ q.rib.getD j 0 > L.R-1)=False:=eq_false (by omega)
           have ir:inRb L.R r=true:=by rw [er];exact decide_eq_true c8
           rcases Bool.eq_false_or_eq_true b5' with qb|qb
           ·rw [qb] at r45 fin
            have hsp:=@Nat.succ_ne_zero;repeat' (first|simp (disch:=first|exact dq|fail) only [go_sem,↓reduceIte,hsp,r48,r44,r45,d1,d2,d3,d6,d7,cc1,cc4,cc5,cc6,cc7,kZ1,kZ3,kZ4,kZ5,kZ6,kZ7,hlt2,gH1,gq1,run_off,hjt,va]|refine WP_drw ?_|refine cnd_intro (fun hsp=>?_) fun hsp=>?_)
            exact ⟨agq,by omega,_,_,rfl,rfl,fin (by simp [ir]) (by simp)⟩
           ·rw [qb] at r45 fin
            by_cases c0:0<j
            ·have tb:((j:Int) > 0)=True:=eq_true (by omega)
             by_cases c9:q.rib.getD j 0≤q.rib.getD (j-1) 0
             ·have vb:(q.rib.getD j 0≤q.rib.getD (j-1) 0)=True:=eq_true c9
              have dr:drop1 q.rib j=true:=decide_eq_true ⟨c0,c9⟩
              have hsp:=@Nat.succ_ne_zero;repeat' (first|simp (disch:=first|exact dq|fail) only [go_sem,↓reduceIte,hsp,r48,r44,r45,d1,d2,d3,d6,d7,cc1,cc4,cc5,cc6,cc7,kZ1,kZ3,kZ4,kZ5,kZ6,kZ7,hlt2,gH1,gq1,run_off,hjt,va,tb,vb]|refine WP_drw ?_|refine cnd_intro (fun hsp=>?_) fun hsp=>?_)
              exact ⟨agq,by omega,_,_,rfl,rfl,fin (by simp [ir]) (by simp [dr])⟩
             ·have vb:(q.rib.getD j 0≤q.rib.getD (j-1) 0)=False:=eq_false c9
              have dr:drop1 q.rib j=false:=decide_eq_false fun w=>c9 w.2
              have hsp:=@Nat.succ_ne_zero;repeat' (first|simp (disch:=first|exact dq|fail) only [go_sem,↓reduceIte,hsp,r48,r44,r45,d1,d2,d3,d6,d7,cc1,cc4,cc5,cc6,cc7,kZ1,kZ3,kZ4,kZ5,kZ6,kZ7,hlt2,gH1,gq1,run_off,hjt,va,tb,vb]|refine WP_drw ?_|refine cnd_intro (fun hsp=>?_) fun hsp=>?_)
              exact ⟨agq,by omega,_,_,rfl,rfl,fin (by simp [ir]) (by simp [dr])⟩
            ·have tb:((j:Int) > 0)=False:=eq_false (by omega)
             have dr:drop1 q.rib j=false:=decide_eq_false fun w=>c0 w.1
             have hsp:=@Nat.succ_ne_zero;repeat' (first|simp (disch:=first|exact dq|fail) only [go_sem,↓reduceIte,hsp,r48,r44,r45,d1,d2,d3,d6,d7,cc1,cc4,cc5,cc6,cc7,kZ1,kZ3,kZ4,kZ5,kZ6,kZ7,hlt2,gH1,gq1,run_off,hjt,va,tb]|refine WP_drw ?_|refine cnd_intro (fun hsp=>?_) fun hsp=>?_)
             exact ⟨agq,by omega,_,_,rfl,rfl,fin (by simp [ir]) (by simp [dr])⟩
          ·have va:(q.rib.getD j 0<0 ∨ q.rib.getD j 0 > L.R-1)=True:=eq_true (by omega)
           have ir:inRb L.R r=false:=by rw [er];exact decide_eq_false c8
           rcases Bool.eq_false_or_eq_true b5' with qb|qb
           ·rw [qb] at r45 fin
            have hsp:=@Nat.succ_ne_zero;repeat' (first|simp (disch:=first|exact dq|fail) only [go_sem,↓reduceIte,hsp,r48,r44,r45,d1,d2,d3,d6,d7,cc1,cc4,cc5,cc6,cc7,kZ1,kZ3,kZ4,kZ5,kZ6,kZ7,hlt2,gH1,gq1,run_off,hjt,va]|refine WP_drw ?_|refine cnd_intro (fun hsp=>?_) fun hsp=>?_)
            exact ⟨agq,by omega,_,_,rfl,rfl,fin (by simp [ir]) (by simp)⟩
           ·rw [qb] at r45 fin
            by_cases c0:0<j
            ·have tb:((j:Int) > 0)=True:=eq_true (by omega)
             by_cases c9:q.rib.getD j 0≤q.rib.getD (j-1) 0
             ·have vb:(q.rib.getD j 0≤q.rib.getD (j-1) 0)=True:=eq_true c9
              have dr:drop1 q.rib j=true:=decide_eq_true ⟨c0,c9⟩
              have hsp:=@Nat.succ_ne_zero;repeat' (first|simp (disch:=first|exact dq|fail) only [go_sem,↓reduceIte,hsp,r48,r44,r45,d1,d2,d3,d6,d7,cc1,cc4,cc5,cc6,cc7,kZ1,kZ3,kZ4,kZ5,kZ6,kZ7,hlt2,gH1,gq1,run_off,hjt,va,tb,vb]|refine WP_drw ?_|refine cnd_intro (fun hsp=>?_) fun hsp=>?_)
              exact ⟨agq,by omega,_,_,rfl,rfl,fin (by simp [ir]) (by simp [dr])⟩
             ·have vb:(q.rib.getD j 0≤q.rib.getD (j-1) 0)=False:=eq_false c9
              have dr:drop1 q.rib j=false:=decide_eq_false fun w=>c9 w.2
              have hsp:=@Nat.succ_ne_zero;repeat' (first|simp (disch:=first|exact dq|fail) only [go_sem,↓reduceIte,hsp,r48,r44,r45,d1,d2,d3,d6,d7,cc1,cc4,cc5,cc6,cc7,kZ1,kZ3,kZ4,kZ5,kZ6,kZ7,hlt2,gH1,gq1,run_off,hjt,va,tb,vb]|refine WP_drw ?_|refine cnd_intro (fun hsp=>?_) fun hsp=>?_)
              exact ⟨agq,by omega,_,_,rfl,rfl,fin (by simp [ir]) (by simp [dr])⟩
            ·have tb:((j:Int) > 0)=False:=eq_false (by omega)
             have dr:drop1 q.rib j=false:=decide_eq_false fun w=>c0 w.1
             have hsp:=@Nat.succ_ne_zero;repeat' (first|simp (disch:=first|exact dq|fail) only [go_sem,↓reduceIte,hsp,r48,r44,r45,d1,d2,d3,d6,d7,cc1,cc4,cc5,cc6,cc7,kZ1,kZ3,kZ4,kZ5,kZ6,kZ7,hlt2,gH1,gq1,run_off,hjt,va,tb]|refine WP_drw ?_|refine cnd_intro (fun hsp=>?_) fun hsp=>?_)
             exact ⟨agq,by omega,_,_,rfl,rfl,fin (by simp [ir]) (by simp [dr])⟩
        ·rintro fr4 H4 hA4 ⟨r48,eH4,b4',b5',r44,r45,e44,e45⟩
         subst eH4
         have d1:=hA4 1 rfl
         have d2:=hA4 2 rfl
         have d3:=hA4 3 rfl
         have d6:=hA4 6 rfl
         have d7:=hA4 7 rfl
         try simp (disch:=first|exact dq|fail) only [go_sem,↓reduceIte,cc1,cc6,cc7] at d1 d2 d3 d6 d7
         have d3:=hA4 3 rfl
         simp (disch:=first|exact dq|fail) only [go_sem,↓reduceIte,r33] at d3
         have d6:=hA4 6 rfl
         simp (disch:=first|exact dq|fail) only [go_sem,↓reduceIte,cc1,cc4,cc5,cc6,cc7,kZ1,kZ3,kZ4,kZ5,kZ6,kZ7] at d6
         have hlt2:((q.rib.length:Int)<(q.rib.length:Int))=False:=eq_false (by omega)
         rw [List.take_length] at e44
         have hsp:=@Nat.succ_ne_zero;repeat' (first|simp (disch:=first|exact dq|fail) only [go_sem,↓reduceIte,hsp,r48,r44,r45,d1,d2,d3,d6,d7,d3,d6,cc1,cc4,cc5,cc6,cc7,kZ1,kZ3,kZ4,kZ5,kZ6,kZ7,hlt2,gH1,gq1]|refine WP_drw ?_|refine cnd_intro (fun hsp=>?_) fun hsp=>?_)
         refine ⟨agq,by omega,xH.trans xH1,⟨_,_,_,rfl,rfl,rfl,?_,?_,?_⟩,fun k hk=>?_⟩
         ·rw [any_take_succ _ hq,e3]
         ·rw [any_take_succ _ hq,e44,e4,any_not (inRb L.R)]
         ·rw [any_take_succ _ hq,e45,e5,dropA_rise]
         ·by_cases e:k=i
          ·subst e;rw [← eq];omega
          ·exact hne k (by omega)
     ·rintro fr H hA ⟨r6,xH,⟨b3,b4,b5,r3,r4,r5,e3,e4,e5⟩,hne⟩
      have p1:=hA 1 rfl
      try simp (disch:=first|exact dq|fail) only [go_sem,↓reduceIte] at p1
      have hlt:((L.ps.length:Int)<(L.ps.length:Int))=False:=eq_false (by omega)
      rw [List.take_length] at e3 e4 e5
      have xh:=xh0.trans xH
      have hhl:=xh.len
      have gH:=xH.get g0
      have l3:=(hP.ext xh).lenR
      have hall:∀ p ∈ L.ps,0<p.rib.length:=fun p hp=>by
       obtain ⟨j,hj,rfl⟩:=List.getElem_of_mem hp
       have:=hne j hj
       rwa [getD_at hj] at this
      have hsp:=@Nat.succ_ne_zero;repeat' (first|simp (disch:=first|exact dq|fail) only [go_sem,↓reduceIte,hsp,r6,p1,hlt,gH,l3]|refine WP_drw ?_|refine cnd_intro (fun hsp=>?_) fun hsp=>?_)
      refine WP_count [(4,147)] 0 L.ss.length (Nat.zero_le _) (fun _ i fr h'=>fr 9=.int .i64 (i:Int)∧Ext H0 h'∧∃ b4' b5',fr 4=.bool b4'∧fr 5=.bool b5'∧b4'=(b4 || (L.ss.take i).any fun s=>!sgIn L s)∧b5'=(b5 || (L.ss.take i).any fun s=>!decide (s.lo≤s.hi))) ?_ ?_ ?_
      ·exact ⟨by (simp (disch:=first|exact dq|fail) only [go_sem,↓reduceIte,Int.natCast_zero];first|done|rfl),xH,b4,b5,by simp (disch:=first|exact dq|fail) only [go_sem,↓reduceIte,r4],by simp (disch:=first|exact dq|fail) only [go_sem,↓reduceIte,r5],by simp,by simp⟩
      ·rintro i fr4 H4 hi0 hi hA4 ⟨r9,xH4,b4',b5',r44,r45,e44,e45⟩
       have d1:=hA4 1 rfl
       have d2:=hA4 2 rfl
       have d3:=hA4 3 rfl
       try simp (disch:=first|exact dq|fail) only [go_sem,↓reduceIte,p1] at d1 d2 d3
       have hlt:((i:Int)<(L.ss.length:Int))=True:=eq_true (by omega)
       have xh4:=xh0.trans xH4
       have hhl4:=xh4.len
       have gH4:=xH4.get g0
       have gH4':∀ {a:ABlk},(H4++[a])[h.length]?=_:=fun {a}=>get_app gH4
       have l4:lenOpA prog H4 30 sv=some (.int .i64 (L.ss.length:Int)):=(hS.ext xh4).len Fc.el30
       obtain ⟨s,es⟩:∃ s,s=L.ss.getD i sgt0:=⟨_,rfl⟩
       have hs:L.ss[i]?=some s:=by rw [es];exact getD_some hi
       have ad:=(hS.ext xh4).addr (P:=prog) (i:=(i:Int)) Fc.el30 Fc.ar30 (by omega) (by omega)
       rw [Int.toNat_natCast] at ad
       have s1:loadP prog H4 126 (elAdr sv encS.z i 0)=some (.agg [.int .i64 s.rib,.int .i64 s.lo,.int .i64 s.hi,.bool s.bad]):=(hS.ext xh4).load (P:=prog) Fc.ty126 hs
       have s2:∀ {T:Heap},loadP prog (H4++T) 126 (elAdr sv encS.z i 0)=some (.agg [.int .i64 s.rib,.int .i64 s.lo,.int .i64 s.hi,.bool s.bad]):=fun {T}=>(hS.ext (xh4.trans (.app .refl))).load (P:=prog) Fc.ty126 hs
       have fin:∀ {x y:Bool},x=(b4' || !sgIn L s)→y=(b5' || !decide (s.lo≤s.hi))→x=(b4 || (L.ss.take (i+1)).any fun s=>!sgIn L s)∧y=(b5 || (L.ss.take (i+1)).any fun s=>!decide (s.lo≤s.hi)):=by
        intro x y hx hy
        rw [hx,hy,e44,e45,any_take_succ _ hs,any_take_succ _ hs,Bool.or_assoc,Bool.or_assoc]
        exact ⟨rfl,rfl⟩
       rcases Bool.eq_false_or_eq_true b4' with qa|qa
       ·rw [qa] at r44 fin
        rcases Bool.eq_false_or_eq_true b5' with qb|qb
        ·rw [qb] at r45 fin
         have hsp:=@Nat.succ_ne_zero;repeat' (first|simp (disch:=first|exact dq|fail) only [go_sem,↓reduceIte,hsp,r9,r44,r45,d1,d2,d3,p1,hlt,gH4,gH4',l4,ad,s1,s2,run_off]|refine WP_drw ?_|refine cnd_intro (fun hsp=>?_) fun hsp=>?_)
         exact ⟨agq,by omega,xH4.trans (.app .refl),_,_,rfl,rfl,fin (by simp) (by simp)⟩
        ·rw [qb] at r45 fin
         by_cases c9:s.lo > s.hi
         ·have vb:(s.lo > s.hi)=True:=eq_true c9
          have dr:decide (s.lo≤s.hi)=false:=decide_eq_false (by omega)
          have hsp:=@Nat.succ_ne_zero;repeat' (first|simp (disch:=first|exact dq|fail) only [go_sem,↓reduceIte,hsp,r9,r44,r45,d1,d2,d3,p1,hlt,gH4,gH4',l4,ad,s1,s2,run_off,vb]|refine WP_drw ?_|refine cnd_intro (fun hsp=>?_) fun hsp=>?_)
          exact ⟨agq,by omega,xH4.trans (.app .refl),_,_,rfl,rfl,fin (by simp) (by rw [dr];rfl)⟩
         ·have vb:(s.lo > s.hi)=False:=eq_false c9
          have dr:decide (s.lo≤s.hi)=true:=decide_eq_true (by omega)
          have hsp:=@Nat.succ_ne_zero;repeat' (first|simp (disch:=first|exact dq|fail) only [go_sem,↓reduceIte,hsp,r9,r44,r45,d1,d2,d3,p1,hlt,gH4,gH4',l4,ad,s1,s2,run_off,vb]|refine WP_drw ?_|refine cnd_intro (fun hsp=>?_) fun hsp=>?_)
          exact ⟨agq,by omega,xH4.trans (.app .refl),_,_,rfl,rfl,fin (by simp) (by rw [dr];rfl)⟩
       ·rw [qa] at r44 fin
        by_cases w1:0≤s.rib∧s.rib≤L.R-1
        ·have y1:(s.rib<0 ∨ s.rib > L.R-1)=False:=eq_false (by omega)
         by_cases w2:0≤s.lo∧s.lo≤L.T-1
         ·have y2:(s.lo<0 ∨ s.lo > L.T-1)=False:=eq_false (by omega)
          by_cases w3:0≤s.hi∧s.hi≤L.T-1
          ·have y3:(s.hi<0 ∨ s.hi > L.T-1)=False:=eq_false (by omega)
           have ir:sgIn L s=true:=decide_eq_true ⟨w1,w2,w3⟩
           rcases Bool.eq_false_or_eq_true b5' with qb|qb
           ·rw [qb] at r45 fin
            have hsp:=@Nat.succ_ne_zero;repeat' (first|simp (disch:=first|exact dq|fail) only [go_sem,↓reduceIte,hsp,r9,r44,r45,d1,d2,d3,p1,hlt,gH4,gH4',l4,ad,s1,s2,run_off,y1,y2,y3]|refine WP_drw ?_|refine cnd_intro (fun hsp=>?_) fun hsp=>?_)
            exact ⟨agq,by omega,xH4.trans (.app .refl),_,_,rfl,rfl,fin (by rw [ir];rfl) (by simp)⟩
           ·rw [qb] at r45 fin
            by_cases c9:s.lo > s.hi
            ·have vb:(s.lo > s.hi)=True:=eq_true c9
             have dr:decide (s.lo≤s.hi)=false:=decide_eq_false (by omega)
             have hsp:=@Nat.succ_ne_zero;repeat' (first|simp (disch:=first|exact dq|fail) only [go_sem,↓reduceIte,hsp,r9,r44,r45,d1,d2,d3,p1,hlt,gH4,gH4',l4,ad,s1,s2,run_off,y1,y2,y3,vb]|refine WP_drw ?_|refine cnd_intro (fun hsp=>?_) fun hsp=>?_)
             exact ⟨agq,by omega,xH4.trans (.app .refl),_,_,rfl,rfl,fin (by rw [ir];rfl) (by rw [dr];rfl)⟩
            ·have vb:(s.lo > s.hi)=False:=eq_false c9
             have dr:decide (s.lo≤s.hi)=true:=decide_eq_true (by omega)
             have hsp:=@Nat.succ_ne_zero;repeat' (first|simp (disch:=first|exact dq|fail) only [go_sem,↓reduceIte,hsp,r9,r44,r45,d1,d2,d3,p1,hlt,gH4,gH4',l4,ad,s1,s2,run_off,y1,y2,y3,vb]|refine WP_drw ?_|refine cnd_intro (fun hsp=>?_) fun hsp=>?_)
             exact ⟨agq,by omega,xH4.trans (.app .refl),_,_,rfl,rfl,fin (by rw [ir];rfl) (by rw [dr];rfl)⟩
          ·have y3:(s.hi<0 ∨ s.hi > L.T-1)=True:=eq_true (by omega)
           have ir:sgIn L s=false:=decide_eq_false fun w=>w3 w.2.2
           rcases Bool.eq_false_or_eq_true b5' with qb|qb
           ·rw [qb] at r45 fin
            have hsp:=@Nat.succ_ne_zero;repeat' (first|simp (disch:=first|exact dq|fail) only [go_sem,↓reduceIte,hsp,r9,r44,r45,d1,d2,d3,p1,hlt,gH4,gH4',l4,ad,s1,s2,run_off,y1,y2,y3]|refine WP_drw ?_|refine cnd_intro (fun hsp=>?_) fun hsp=>?_)
            exact ⟨agq,by omega,xH4.trans (.app .refl),_,_,rfl,rfl,fin (by rw [ir];rfl) (by simp)⟩
           ·rw [qb] at r45 fin
            by_cases c9:s.lo > s.hi
            ·have vb:(s.lo > s.hi)=True:=eq_true c9
             have dr:decide (s.lo≤s.hi)=false:=decide_eq_false (by omega)
             have hsp:=@Nat.succ_ne_zero;repeat' (first|simp (disch:=first|exact dq|fail) only [go_sem,↓reduceIte,hsp,r9,r44,r45,d1,d2,d3,p1,hlt,gH4,gH4',l4,ad,s1,s2,run_off,y1,y2,y3,vb]|refine WP_drw ?_|refine cnd_intro (fun hsp=>?_) fun hsp=>?_)
             exact ⟨agq,by omega,xH4.trans (.app .refl),_,_,rfl,rfl,fin (by rw [ir];rfl) (by rw [dr];rfl)⟩
            ·have vb:(s.lo > s.hi)=False:=eq_false c9
             have dr:decide (s.lo≤s.hi)=true:=decide_eq_true (by omega)
             have hsp:=@Nat.succ_ne_zero;repeat' (first|simp (disch:=first|exact dq|fail) only [go_sem,↓reduceIte,hsp,r9,r44,r45,d1,d2,d3,p1,hlt,gH4,gH4',l4,ad,s1,s2,run_off,y1,y2,y3,vb]|refine WP_drw ?_|refine cnd_intro (fun hsp=>?_) fun hsp=>?_)
             exact ⟨agq,by omega,xH4.trans (.app .refl),_,_,rfl,rfl,fin (by rw [ir];rfl) (by rw [dr];rfl)⟩
         ·have y2:(s.lo<0 ∨ s.lo > L.T-1)=True:=eq_true (by omega)
          have ir:sgIn L s=false:=decide_eq_false fun w=>w2 w.2.1
          rcases Bool.eq_false_or_eq_true b5' with qb|qb
          ·rw [qb] at r45 fin
           have hsp:=@Nat.succ_ne_zero;repeat' (first|simp (disch:=first|exact dq|fail) only [go_sem,↓reduceIte,hsp,r9,r44,r45,d1,d2,d3,p1,hlt,gH4,gH4',l4,ad,s1,s2,run_off,y1,y2]|refine WP_drw ?_|refine cnd_intro (fun hsp=>?_) fun hsp=>?_)
           exact ⟨agq,by omega,xH4.trans (.app .refl),_,_,rfl,rfl,fin (by rw [ir];rfl) (by simp)⟩
          ·rw [qb] at r45 fin
           by_cases c9:s.lo > s.hi
           ·have vb:(s.lo > s.hi)=True:=eq_true c9
            have dr:decide (s.lo≤s.hi)=false:=decide_eq_false (by omega)
            have hsp:=@Nat.succ_ne_zero;repeat' (first|simp (disch:=first|exact dq|fail) only [go_sem,↓reduceIte,hsp,r9,r44,r45,d1,d2,d3,p1,hlt,gH4,gH4',l4,ad,s1,s2,run_off,y1,y2,vb]|refine WP_drw ?_|refine cnd_intro (fun hsp=>?_) fun hsp=>?_)
            exact ⟨agq,by omega,xH4.trans (.app .refl),_,_,rfl,rfl,fin (by rw [ir];rfl) (by rw [dr];rfl)⟩
           ·have vb:(s.lo > s.hi)=False:=eq_false c9
            have dr:decide (s.lo≤s.hi)=true:=decide_eq_true (by omega)
            have hsp:=@Nat.succ_ne_zero;repeat' (first|simp (disch:=first|exact dq|fail) only [go_sem,↓reduceIte,hsp,r9,r44,r45,d1,d2,d3,p1,hlt,gH4,gH4',l4,ad,s1,s2,run_off,y1,y2,vb]|refine WP_drw ?_|refine cnd_intro (fun hsp=>?_) fun hsp=>?_)
            exact ⟨agq,by omega,xH4.trans (.app .refl),_,_,rfl,rfl,fin (by rw [ir];rfl) (by rw [dr];rfl)⟩
        ·have y1:(s.rib<0 ∨ s.rib > L.R-1)=True:=eq_true (by omega)
         have ir:sgIn L s=false:=decide_eq_false fun w=>w1 w.1
         rcases Bool.eq_false_or_eq_true b5' with qb|qb
         ·rw [qb] at r45 fin
          have hsp:=@Nat.succ_ne_zero;repeat' (first|simp (disch:=first|exact dq|fail) only [go_sem,↓reduceIte,hsp,r9,r44,r45,d1,d2,d3,p1,hlt,gH4,gH4',l4,ad,s1,s2,run_off,y1]|refine WP_drw ?_|refine cnd_intro (fun hsp=>?_) fun hsp=>?_)
          exact ⟨agq,by omega,xH4.trans (.app .refl),_,_,rfl,rfl,fin (by rw [ir];rfl) (by simp)⟩
         ·rw [qb] at r45 fin
          by_cases c9:s.lo > s.hi
          ·have vb:(s.lo > s.hi)=True:=eq_true c9
           have dr:decide (s.lo≤s.hi)=false:=decide_eq_false (by omega)
           have hsp:=@Nat.succ_ne_zero;repeat' (first|simp (disch:=first|exact dq|fail) only [go_sem,↓reduceIte,hsp,r9,r44,r45,d1,d2,d3,p1,hlt,gH4,gH4',l4,ad,s1,s2,run_off,y1,vb]|refine WP_drw ?_|refine cnd_intro (fun hsp=>?_) fun hsp=>?_)
           exact ⟨agq,by omega,xH4.trans (.app .refl),_,_,rfl,rfl,fin (by rw [ir];rfl) (by rw [dr];rfl)⟩
          ·have vb:(s.lo > s.hi)=False:=eq_false c9
           have dr:decide (s.lo≤s.hi)=true:=decide_eq_true (by omega)
           have hsp:=@Nat.succ_ne_zero;repeat' (first|simp (disch:=first|exact dq|fail) only [go_sem,↓reduceIte,hsp,r9,r44,r45,d1,d2,d3,p1,hlt,gH4,gH4',l4,ad,s1,s2,run_off,y1,vb]|refine WP_drw ?_|refine cnd_intro (fun hsp=>?_) fun hsp=>?_)
           exact ⟨agq,by omega,xH4.trans (.app .refl),_,_,rfl,rfl,fin (by rw [ir];rfl) (by rw [dr];rfl)⟩
      ·rintro fr4 H4 hA4 ⟨r9,xH4,b4',b5',r44,r45,e44,e45⟩
       have d1:=hA4 1 rfl
       have d2:=hA4 2 rfl
       have d3:=hA4 3 rfl
       try simp (disch:=first|exact dq|fail) only [go_sem,↓reduceIte,p1] at d1 d2 d3
       have d3:=hA4 3 rfl
       simp (disch:=first|exact dq|fail) only [go_sem,↓reduceIte,r3] at d3
       have hlt:((L.ss.length:Int)<(L.ss.length:Int))=False:=eq_false (by omega)
       have xh4:=xh0.trans xH4
       have hhl4:=xh4.len
       have gH4:=xH4.get g0
       have l4:lenOpA prog H4 30 sv=some (.int .i64 (L.ss.length:Int)):=(hS.ext xh4).len Fc.el30
       rw [List.take_length] at e44 e45
       have rr:=chk_flags c1 c2 c3 c4 hall
       rw [← e3,← e4,← e5,← e44,← e45] at rr
       rw [rr]
       rcases Bool.eq_false_or_eq_true b3 with q3|q3
       ·rw [q3] at d3 ⊢
        have hsp:=@Nat.succ_ne_zero;repeat' (first|simp (disch:=first|exact dq|fail) only [go_sem,↓reduceIte,hsp,r9,r44,r45,d1,d2,d3,d3,hlt,gH4,l4]|refine WP_drw ?_|refine cnd_intro (fun hsp=>?_) fun hsp=>?_)
        exact fI rfl xh4
       ·rw [q3] at d3 ⊢
        rcases Bool.eq_false_or_eq_true b4' with q4|q4
        ·rw [q4] at r44 ⊢
         have hsp:=@Nat.succ_ne_zero;repeat' (first|simp (disch:=first|exact dq|fail) only [go_sem,↓reduceIte,hsp,r9,r44,r45,d1,d2,d3,d3,hlt,gH4,l4]|refine WP_drw ?_|refine cnd_intro (fun hsp=>?_) fun hsp=>?_)
         exact fI rfl xh4
        ·rw [q4] at r44 ⊢
         rcases Bool.eq_false_or_eq_true b5' with q5|q5
         ·rw [q5] at r45 ⊢
          have hsp:=@Nat.succ_ne_zero;repeat' (first|simp (disch:=first|exact dq|fail) only [go_sem,↓reduceIte,hsp,r9,r44,r45,d1,d2,d3,d3,hlt,gH4,l4]|refine WP_drw ?_|refine cnd_intro (fun hsp=>?_) fun hsp=>?_)
          exact fI rfl xh4
         ·rw [q5] at r45 ⊢
          have hsp:=@Nat.succ_ne_zero;repeat' (first|simp (disch:=first|exact dq|fail) only [go_sem,↓reduceIte,hsp,r9,r44,r45,d1,d2,d3,d3,hlt,gH4,l4]|refine WP_drw ?_|refine cnd_intro (fun hsp=>?_) fun hsp=>?_)
          exact fI rfl xh4
   ·have t3:((L.ps.length:Int)<1 ∨ (L.ps.length:Int) > 6)=True:=eq_true (by omega)
    have r:chkM L=2:=by unfold chkM;rw [if_pos (.inr (.inr (.inl c3)))]
    rw [r]
    have hsp:=@Nat.succ_ne_zero;repeat' (first|simp (disch:=first|exact dq|fail) only [go_sem,↓reduceIte,hsp,run_off,t1,t2,t3,l1,l2]|refine WP_drw ?_|refine cnd_intro (fun hsp=>?_) fun hsp=>?_)
    exact fI rfl
  ·have t2:(L.T<1 ∨ L.T > 12)=True:=eq_true (by omega)
   have r:chkM L=2:=by unfold chkM;rw [if_pos (.inr (.inl c2))]
   rw [r]
   have hsp:=@Nat.succ_ne_zero;repeat' (first|simp (disch:=first|exact dq|fail) only [go_sem,↓reduceIte,hsp,run_off,t1,t2]|refine WP_drw ?_|refine cnd_intro (fun hsp=>?_) fun hsp=>?_)
   exact fI rfl
 ·have t1:(L.R<1 ∨ L.R > 6)=True:=eq_true (by omega)
  have r:chkM L=2:=by unfold chkM;rw [if_pos (.inl c1)]
  rw [r]
  have hsp:=@Nat.succ_ne_zero;repeat' (first|simp (disch:=first|exact dq|fail) only [go_sem,↓reduceIte,hsp,run_off,t1]|refine WP_drw ?_|refine cnd_intro (fun hsp=>?_) fun hsp=>?_)
  exact fI rfl
end Go.AM
