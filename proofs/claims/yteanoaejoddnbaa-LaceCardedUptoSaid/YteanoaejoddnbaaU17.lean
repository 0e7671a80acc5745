/-
  Contracts: Ask.
-/
import Derived.Test.YteanoaejoddnbaaU16
import Derived.Test.YteanoaejoddnbaaU14
import Derived.Test.YteanoaejoddnbaaU11
set_option linter.unusedSimpArgs false
set_option linter.unusedVariables false
namespace Go.AM
open Go.Proofs.Try
attribute [-go_sem] put_ne put_same
attribute [local go_sem ↓] put_if
theorem grt_le {l:List Int} {B:Int} (hB:0≤B) (h:∀ x ∈ l,x≤B):0≤grt l∧grt l≤B:=by
 refine ⟨grt_ge.1,?_⟩
 unfold grt
 rcases grt_is (l:=l) (a:=0) with q|q
 ·omega
 ·exact h _ q
theorem lvsN_bd {n:Nat} {os:List (List Int)} {p:Nat} (hl:os.length≤823543):0≤lvsN n os p∧lvsN n os p≤1000000:=by
 unfold lvsN
 refine grt_le (by omega) fun x hx=>?_
 obtain ⟨k,hk,e⟩:=List.mem_iff_getElem.1 hx
 rw [lst_len] at hk
 have:(lst (fun k=>((os.countP fun o=>decide (o.getD p 0=(k:Int)):Nat):Int)) n).getD k 0=x:=by rw [getD_at (by rw [lst_len];exact hk),e]
 rw [lst_get hk] at this
 have h2:os.countP (fun o=>decide (o.getD p 0=(k:Int)))≤os.length:=List.countP_le_length
 omega
abbrev lkB (g:AVal):ABlk:=⟨.cells [g] 155 false false,0⟩
set_option maxRecDepth 100000 in
set_option maxHeartbeats 2000000 in
theorem run_Ask {base:Nat} {h:Heap} {v:AVal} {L:Lac} (hL:LacAt h v L) :
  callL prog raw base (.fn 61 [] []) [v] h=some (.tuple [.int .i64 (askE L).1,.int .i64 (askE L).2.1,.int .i64 (askE L).2.2],h):=by
 have hL0:=hL
 obtain ⟨cv,rv,rfl,hC,hR⟩:=hL
 have o1:=hC.one
 have o2:=hR.one
 obtain ⟨G0,eG0⟩:∃ G0,G0=h++[lacB L.T cv rv]:=⟨_,rfl⟩
 have x0:Ext h G0:=by rw [eG0];exact .app .refl
 have g0:G0[h.length]?=some (lacB L.T cv rv):=by rw [eG0];exact get_eq rfl
 have l0:G0.length=h.length+1:=by rw [eG0];simp
 obtain ⟨w1,H1,e1,x1,a,x,rfl,oa,hA,hD⟩:=run_found (base:=h.length) (h:=G0) (by omega) (hL0.ext x0)
 have ox:=hA.one
 have l1:=x1.len
 obtain ⟨H2,eH2⟩:∃ H2,H2=H1++[(⟨.cells [a] 132 false false,0⟩:ABlk)]:=⟨_,rfl⟩
 obtain ⟨H3,eH3⟩:∃ H3,H3=H2++[lsB x]:=⟨_,rfl⟩
 have x2:Ext H1 H2:=by rw [eH2];exact .app .refl
 have x3:Ext H2 H3:=by rw [eH3];exact .app .refl
 have l2:H2.length=H1.length+1:=by rw [eH2];simp
 have l3:H3.length=H1.length+2:=by rw [eH3];simp [l2]
 have ga:H3[H1.length]?=some ⟨.cells [a] 132 false false,0⟩:=x3.get (by rw [eH2];exact get_eq rfl)
 have gb:H3[H1.length+1]?=some (lsB x):=by rw [eH3];exact get_eq l2.symm
 have xh3:=((x0.trans x1).trans x2).trans x3
 unfold lacB at eG0 g0
 have eH3':=eH3
 unfold lsB at eH3'
 refine callL_run func61 rfl rfl ?_
 by_cases c:(fndE L).2=0
 ·obtain ⟨c1,c2,c3⟩:=fndE_ok c
  have kn:=(chkL_iff.1 c1).n
  have r:askE L=((askN L.C.length (fnd L) L.C.length).1,(askN L.C.length (fnd L) L.C.length).2,0):=by unfold askE;rw [if_pos c]
  obtain ⟨id,rfl,hDk⟩:=hD c
  rw [r]
  rw [c3] at hA e1
  have hAI:AllI G0.length H1 x (fnd L):=hA.all
  have hfew:=fnd_few (L:=L) kn.2
  obtain ⟨H4,eH4⟩:∃ H4,H4=H3++[lkB (.fn 129 [] [.ptr (some ⟨H1.length,0,0⟩),.ptr (some ⟨H1.length+1,0,0⟩)])]:=⟨_,rfl⟩
  have x4:Ext H3 H4:=by rw [eH4];exact .app .refl
  have l4:H4.length=H1.length+3:=by rw [eH4];simp [l3]
  have g4:H4[H3.length]?=some (lkB (.fn 129 [] [.ptr (some ⟨H1.length,0,0⟩),.ptr (some ⟨H1.length+1,0,0⟩)])):=by rw [eH4];exact get_eq rfl
  have ga4:=x4.get ga
  have gb4:=x4.get gb
  have x14:=(x2.trans x3).trans x4
  have hD4:=hDk.ext x14
  have hlv:=fun base p (hp:p<L.C.length)=>run_lvs (base:=base) (p:=p) ga4 gb4 hD4 kn (hAI.ext x14) hfew (fun o ho=>fnd_ord ho) hp
  obtain ⟨cv',rv',hg,hC',-⟩:=hD4
  have lc:=ld_cards hg
  have hlc:=lenI hC'
  have hlb:=fun p=>lvsN_bd (n:=L.C.length) (p:=p) hfew
  unfold lkB at eH4 g4
  have hsp:=@Nat.succ_ne_zero;repeat' (first|simp (disch:=first|exact dqb|fail) only [go_sem,↓reduceIte,hsp,← eG0,g0,e1,eq_self,← eH2,← eH3',ga,gb,← eH4,ga4,lc,hlc]|refine WP_drw ?_|refine cnd_intro (fun hsp=>?_) fun hsp=>?_)
  obtain ⟨A,eA⟩:∃ A,A=askN L.C.length (fnd L):=⟨_,rfl⟩
  rw [← eA]
  refine WP_count [(2,3),(8,9),(27,43)] 0 L.C.length (Nat.zero_le _) (fun _ i fr H=>fr 27=.int .i64 (i:Int)∧H=H4∧fr 2=.int .i64 (A i).1∧fr 3=.int .i64 (A i).2) ?_ ?_ ?_
  ·exact ⟨by (simp (disch:=first|exact dqb|fail) only [go_sem,↓reduceIte,Int.natCast_zero];first|done|rfl),rfl,by rw [eA];simp (disch:=first|exact dqb|fail) only [go_sem,↓reduceIte];rfl,by rw [eA];simp (disch:=first|exact dqb|fail) only [go_sem,↓reduceIte];rfl⟩
  ·rintro i fr H hi0 hi hA2 ⟨r27,rfl,r2,r3⟩
   have q4:=hA2 4 rfl
   have q7:=hA2 7 rfl
   have q26:=hA2 26 rfl
   try simp (disch:=first|exact dqb|fail) only [go_sem,↓reduceIte] at q4 q7 q26
   have hlt:((i:Int)<(L.C.length:Int))=True:=eq_true (by omega)
   have hlv0:=fun base=>hlv base i hi
   obtain ⟨m,em⟩:∃ m,m=lvsN L.C.length (fnd L) i:=⟨_,rfl⟩
   rw [← em] at hlv0
   have hs:A (i+1)=if i=0 ∨ m<(A i).2 then ((i:Int),m) else A i:=by rw [eA,askN,em]
   by_cases q1:i=0
   ·have t1:((i:Int)=0)=True:=eq_true (by omega)
    rw [if_pos (.inl q1)] at hs
    have hsp:=@Nat.succ_ne_zero;repeat' (first|simp (disch:=first|exact dqb|fail) only [go_sem,↓reduceIte,hsp,r27,r2,r3,q4,q7,q26,hlt,g4,hlv0,t1]|refine WP_drw ?_|refine cnd_intro (fun hsp=>?_) fun hsp=>?_)
    exact ⟨agq,by omega,by rw [hs],by rw [hs]⟩
   ·have t1:((i:Int)=0)=False:=eq_false (by omega)
    by_cases q2:m<(A i).2
    ·have t2:(m<(A i).2)=True:=eq_true q2
     rw [if_pos (.inr q2)] at hs
     have hsp:=@Nat.succ_ne_zero;repeat' (first|simp (disch:=first|exact dqb|fail) only [go_sem,↓reduceIte,hsp,r27,r2,r3,q4,q7,q26,hlt,g4,hlv0,t1,t2]|refine WP_drw ?_|refine cnd_intro (fun hsp=>?_) fun hsp=>?_)
     exact ⟨agq,by omega,by rw [hs],by rw [hs]⟩
    ·have t2:(m<(A i).2)=False:=eq_false q2
     rw [if_neg (fun z=>z.elim q1 q2)] at hs
     have hsp:=@Nat.succ_ne_zero;repeat' (first|simp (disch:=first|exact dqb|fail) only [go_sem,↓reduceIte,hsp,r27,r2,r3,q4,q7,q26,hlt,g4,hlv0,t1,t2]|refine WP_drw ?_|refine cnd_intro (fun hsp=>?_) fun hsp=>?_)
     exact ⟨agq,by omega,by rw [hs],by rw [hs]⟩
  ·rintro fr H hA2 ⟨r27,rfl,r2,r3⟩
   have q4:=hA2 4 rfl
   have q7:=hA2 7 rfl
   have q26:=hA2 26 rfl
   try simp (disch:=first|exact dqb|fail) only [go_sem,↓reduceIte] at q4 q7 q26
   have hlt:((L.C.length:Int)<(L.C.length:Int))=False:=eq_false (by omega)
   have hsp:=@Nat.succ_ne_zero;repeat' (first|simp (disch:=first|exact dqb|fail) only [go_sem,↓reduceIte,hsp,r27,r2,r3,q4,q7,q26,hlt]|refine WP_drw ?_|refine cnd_intro (fun hsp=>?_) fun hsp=>?_)
   exact fIII rfl rfl rfl (xh3.trans x4)
 ·have t0:((fndE L).2=0)=False:=eq_false c
  have r:askE L=(0,0,(fndE L).2):=by unfold askE;rw [if_neg c]
  rw [r]
  have hsp:=@Nat.succ_ne_zero;repeat' (first|simp (disch:=first|exact dqb|fail) only [go_sem,↓reduceIte,hsp,← eG0,g0,e1,t0,← eH2,← eH3']|refine WP_drw ?_|refine cnd_intro (fun hsp=>?_) fun hsp=>?_)
  exact fIII rfl rfl rfl xh3
end Go.AM
namespace Go.AM
open Go.Proofs.Try
attribute [-go_sem] put_ne put_same
attribute [local go_sem ↓] put_if
def rws4:List Rw3:=[(0,1,1),(5,6,0),(2,4,4),(3,4,4)]
def lac4 (r:Nat):Lac:=⟨3,[1,2,3,4],rws4.take r⟩
theorem bs4 {lit:Bool} {H:Heap} {a b c d:Int}:lit=false→bsA prog lit H 25 4 [(0,.int .i64 a),(1,.int .i64 b),(2,.int .i64 c),(3,.int .i64 d)]=some (.slice (some ⟨H.length,0,0⟩) 4 4,H++[rowB [a,b,c,d] 0]):=by
 intro hl;subst hl;simp [bsA,rowOf,Fc.el25,fillA,repCells,AVal.isN,AVal.cells,splice,rowB,ints]
theorem bs3 {lit:Bool} {H:Heap} {a b c:Int}:lit=false→bsA prog lit H 25 3 [(0,.int .i64 a),(1,.int .i64 b),(2,.int .i64 c)]=some (.slice (some ⟨H.length,0,0⟩) 3 3,H++[rowB [a,b,c] 0]):=by
 intro hl;subst hl;simp [bsA,rowOf,Fc.el25,fillA,repCells,AVal.isN,AVal.cells,splice,rowB,ints]
theorem bs5 {lit:Bool} {H:Heap} {a b c d e:Int}:lit=false→bsA prog lit H 25 5 [(0,.int .i64 a),(1,.int .i64 b),(2,.int .i64 c),(3,.int .i64 d),(4,.int .i64 e)]=some (.slice (some ⟨H.length,0,0⟩) 5 5,H++[rowB [a,b,c,d,e] 0]):=by
 intro hl;subst hl;simp [bsA,rowOf,Fc.el25,fillA,repCells,AVal.isN,AVal.cells,splice,rowB,ints]
theorem bsR4 {lit:Bool} {H:Heap}:bsA prog lit H 42 4 [(0,.agg [.int .i64 0,.int .i64 1,.int .i64 1]),(1,.agg [.int .i64 5,.int .i64 6,.int .i64 0]),(2,.agg [.int .i64 2,.int .i64 4,.int .i64 4]),(3,.agg [.int .i64 3,.int .i64 4,.int .i64 4])]=some (.slice (some ⟨H.length,0,0⟩) 4 4,H++[rowE encR 70 rws4 0]):=by
 simp [bsA,rowOf,Fc.el42,fillA,repCells,AVal.isN,AVal.cells,splice,rowE,flat,encR,rws4]
theorem bsM2 {lit:Bool} {H:Heap}:bsA prog lit H 33 2 [(0,.agg [.int .i64 1,.int .i64 0]),(1,.agg [.int .i64 3,.int .i64 1])]=some (.slice (some ⟨H.length,0,0⟩) 2 2,H++[rowE encM 36 [(1,0),(3,1)] 0]):=by
 simp [bsA,rowOf,Fc.el33,fillA,repCells,AVal.isN,AVal.cells,splice,rowE,flat,encM]
theorem run_Four {base r:Nat} {h:Heap} (hb:base≤h.length) (hr:r≤4):Ret prog raw base (.fn 95 [] []) [.int .i64 (r:Int)] h (fun w H=>Ext h H∧LacAt H w (lac4 r)):=by
 obtain ⟨H1,e1⟩:∃ H1,H1=h++[lacB 0 (.slice none 0 0) (.slice none 0 0)]:=⟨_,rfl⟩
 obtain ⟨H2,e2⟩:∃ H2,H2=H1++[rowE encR 70 rws4 0]:=⟨_,rfl⟩
 obtain ⟨H3,e3⟩:∃ H3,H3=H2++[rowB [1,2,3,4] 0]:=⟨_,rfl⟩
 have l1:H1.length=h.length+1:=by rw [e1];simp
 have l2:H2.length=h.length+2:=by rw [e2];simp [l1]
 have l3:H3.length=h.length+3:=by rw [e3];simp [l2]
 have x1:Ext h H1:=by rw [e1];exact .app .refl
 have x2:Ext H1 H2:=by rw [e2];exact .app .refl
 have x3:Ext H2 H3:=by rw [e3];exact .app .refl
 have g1:H3[h.length]?=some (lacB 0 (.slice none 0 0) (.slice none 0 0)):=x3.get (x2.get (by rw [e1];exact get_eq rfl))
 have g2:H3[H1.length]?=some (rowE encR 70 rws4 0):=x3.get (by rw [e2];exact get_eq rfl)
 have g3:H3[H2.length]?=some (rowB [1,2,3,4] 0):=by rw [e3];exact get_eq rfl
 have ln:∀ {H:Heap},lenOpA prog H 42 (.slice (some ⟨H1.length,0,0⟩) 4 4)=some (.int .i64 4):=fun {H}=>by simp [lenOpA,Fc.el42,lenA]
 have mn:min (r:Int) 4=(r:Int):=by omega
 have mx:max 0 (r:Int)=(r:Int):=by omega
 have sl:sliceA prog 42 (.slice (some ⟨H1.length,0,0⟩) 4 4) none (some (.int .i64 (r:Int))) none=some (.slice (some ⟨H1.length,0,0⟩) r 4):=by
  simp only [sliceA,Fc.ar42,Fc.el42,optB,boundI (show (0:Int)≤(r:Int) by omega) (show (r:Int)≤((4:Nat):Int) by omega)]
  simp [ARef.add]
 have hfin:Ext h (H3.set h.length (lacB 3 (.slice (some ⟨H2.length,0,0⟩) 4 4) (.slice (some ⟨H1.length,0,0⟩) r 4)))∧LacAt (H3.set h.length (lacB 3 (.slice (some ⟨H2.length,0,0⟩) 4 4) (.slice (some ⟨H1.length,0,0⟩) r 4))) (.agg [.int .i64 3,.slice (some ⟨H2.length,0,0⟩) 4 4,.slice (some ⟨H1.length,0,0⟩) r 4]) (lac4 r):=by
  refine ⟨((x1.trans x2).trans x3).set (Nat.le_refl _),_,_,rfl,?_,?_⟩
  ·refine ⟨⟨by show ([1,2,3,4]:List Int).length<2 ^ 60;decide,by show ∀ x ∈ ([1,2,3,4]:List Int),_;decide⟩,.inr (.inr ⟨⟨H2.length,0,0⟩,4,ints [1,2,3,4],3,true,false,rfl,?_,rfl,by show 0+([1,2,3,4]:List Int).length≤4;decide,by show ([1,2,3,4]:List Int).length≤4;decide⟩)⟩
   rw [List.getElem?_set_ne (by show h.length ≠ H2.length;omega)];exact g3
  ·have hlen:(rws4.take r).length=r:=by rw [List.length_take];exact Nat.min_eq_left hr
   refine ⟨by show (rws4.take r).length<_;omega,.inr (.inr ⟨⟨H1.length,0,0⟩,4,flat encR rws4,70,true,false,by show _=AVal.slice _ (rws4.take r).length _;rw [hlen],?_,?_,?_,by show (rws4.take r).length≤4;omega⟩)⟩
   ·rw [List.getElem?_set_ne (by show h.length ≠ H1.length;omega)];exact g2
   ·show ((flat encR rws4).drop 0).take ((rws4.take r).length * 3)=flat encR (rws4.take r)
    rw [hlen]
    have:r=0 ∨ r=1 ∨ r=2 ∨ r=3 ∨ r=4:=by omega
    rcases this with rfl|rfl|rfl|rfl|rfl<;>rfl
   ·show 0+(rws4.take r).length * 3≤12
    omega
 unfold lacB at e1 g1 hfin
 refine ret_raw func95 rfl (by kernel_rfl) ?_
 have hsp:=@Nat.succ_ne_zero;repeat' (first|simp (disch:=first|exact dqb|fail) only [go_sem,↓reduceIte,hsp,← e1,bsR4,← e2,bs4,← e3,ln,mn,mx,sl,g1]|refine WP_drw ?_|refine cnd_intro (fun hsp=>?_) fun hsp=>?_)
 exact hfin
theorem kw4:kwnE (lac4 2)=([2,0,-1,-1],0):=by kernel_rfl
theorem cn4:cntE (lac4 2)=(2,0):=by kernel_rfl
theorem as4:askE (lac4 2)=(2,1,0):=by kernel_rfl
theorem gp4:gpsE (lac4 4) [2,3]=(1,0):=by kernel_rfl
theorem ri5:risE [2,0,3,1,4]=([0,2,4],0):=by kernel_rfl
theorem mk5:makE [2,0,3,1,4] [(1,0),(3,1)]=([0,1,2,3,4],0):=by kernel_rfl
end Go.AM
namespace Go.AM
open Go.Proofs.Try
attribute [-go_sem] put_ne put_same
attribute [local go_sem ↓] put_if
theorem small5:Small [2,0,3,1,4]:=⟨by decide,by decide⟩
set_option maxRecDepth 100000 in
set_option maxHeartbeats 4000000 in
theorem run_awake {base:Nat} {h:Heap}:callL prog raw base (.fn 28 [] []) [] h=some (.bool true,h):=by
 obtain ⟨b,eb⟩:∃ b,b=h.length:=⟨_,rfl⟩
 obtain ⟨v1,H1,e1,x1,c1⟩:=run_Four (base:=h.length) (r:=2) (h:=h) (Nat.le_refl _) (by omega)
 have n1:=x1.len
 obtain ⟨_,H2,e2,x2,k1,rfl,o2⟩:=run_Known (base:=h.length) (h:=H1) (by omega) c1
 rw [kw4] at e2 o2
 have n2:=x2.len
 obtain ⟨v3,H3,e3,x3,c3⟩:=run_Four (base:=h.length) (r:=2) (h:=H2) (by omega) (by omega)
 have n3:=x3.len
 have e4:=run_Count (base:=h.length) c3
 rw [cn4] at e4
 obtain ⟨v5,H5,e5,x5,c5⟩:=run_Four (base:=h.length) (r:=2) (h:=H3) (by omega) (by omega)
 have n5:=x5.len
 have e6:=run_Ask (base:=h.length) c5
 rw [as4] at e6
 obtain ⟨v7,H7,e7,x7,c7⟩:=run_Four (base:=h.length) (r:=4) (h:=H5) (by omega) (by omega)
 have n7:=x7.len
 obtain ⟨H8,eH8⟩:∃ H8,H8=H7++[rowB [2,3] 0]:=⟨_,rfl⟩
 have x8:Ext H7 H8:=by rw [eH8];exact .app .refl
 have n8:=x8.len
 have e8:=run_Gapes (base:=h.length) (gap:=[2,3]) (gv:=.slice (some ⟨H7.length,0,0⟩) 2 2) (c7.ext x8) (by rw [eH8];exact slice_row rfl rfl ⟨by decide,by decide⟩)
 rw [gp4] at e8
 obtain ⟨H9,eH9⟩:∃ H9,H9=H8++[rowB [2,0,3,1,4] 0]:=⟨_,rfl⟩
 have x9:Ext H8 H9:=by rw [eH9];exact .app .refl
 have n9:=x9.len
 obtain ⟨_,H10,e10,x10,k2,rfl,o10⟩:=run_Rise (base:=h.length) (h:=H9) (v:=.slice (some ⟨H8.length,0,0⟩) 5 5) (o:=[2,0,3,1,4]) (by omega) (by rw [eH9];exact slice_row rfl rfl small5)
 rw [ri5] at e10 o10
 have n10:=x10.len
 obtain ⟨H11,eH11⟩:∃ H11,H11=H10++[rowB [2,0,3,1,4] 0]:=⟨_,rfl⟩
 have x11:Ext H10 H11:=by rw [eH11];exact .app .refl
 have n11:=x11.len
 obtain ⟨H12,eH12⟩:∃ H12,H12=H11++[rowE encM 36 [(1,0),(3,1)] 0]:=⟨_,rfl⟩
 have x12:Ext H11 H12:=by rw [eH12];exact .app .refl
 have n12:=x12.len
 obtain ⟨_,H13,e13,x13,k3,rfl,o13⟩:=run_Make (base:=h.length) (h:=H12) (v:=.slice (some ⟨H10.length,0,0⟩) 5 5) (mv:=.slice (some ⟨H11.length,0,0⟩) 2 2) (o:=[2,0,3,1,4]) (ms:=[(1,0),(3,1)]) (by omega)
  (Ints.ext (by rw [eH11];exact slice_row rfl rfl small5) x12) (Rows.own (by rw [eH12];exact get_eq rfl) rfl (by decide)) (by decide)
 rw [mk5] at e13 o13
 have n13:=x13.len
 have ok1:=o2.one
 have ok2:=o10.one
 have ok3:=o13.one
 have i1:Ints H2 k1 [2,0,-1,-1]:=ownE_ints o2 ⟨by decide,by decide⟩
 have i2:Ints H10 k2 [0,2,4]:=own_ints o10 ⟨by decide,by decide⟩
 have i3:Ints H13 k3 [0,1,2,3,4]:=ownE_ints o13 ⟨by decide,by decide⟩
 have y10:=(x11.trans x12).trans x13
 have y2:=(((((x3.trans x5).trans x7).trans x8).trans x9).trans x10).trans y10
 obtain ⟨K1,eK1⟩:∃ K1,K1=H13++[rowB [2,0,-1,-1] 0]:=⟨_,rfl⟩
 have z1:Ext H13 K1:=by rw [eK1];exact .app .refl
 obtain ⟨K2,eK2⟩:∃ K2,K2=K1++[rowB [0,2,4] 0]:=⟨_,rfl⟩
 have z2:Ext K1 K2:=by rw [eK2];exact .app .refl
 obtain ⟨K3,eK3⟩:∃ K3,K3=K2++[rowB [0,1,2,3,4] 0]:=⟨_,rfl⟩
 have z3:Ext K2 K3:=by rw [eK3];exact .app .refl
 have q1:=run_eqI (base:=h.length) (h:=K1) (b:=.slice (some ⟨H13.length,0,0⟩) 4 4) (m:=[2,0,-1,-1]) (i1.ext (y2.trans z1)) (by rw [eK1];exact slice_row rfl rfl ⟨by decide,by decide⟩)
 have q2:=run_eqI (base:=h.length) (h:=K2) (b:=.slice (some ⟨K1.length,0,0⟩) 3 3) (m:=[0,2,4]) (i2.ext ((y10.trans z1).trans z2)) (by rw [eK2];exact slice_row rfl rfl ⟨by decide,by decide⟩)
 have q3:=run_eqI (base:=h.length) (h:=K3) (b:=.slice (some ⟨K2.length,0,0⟩) 5 5) (m:=[0,1,2,3,4]) (i3.ext ((z1.trans z2).trans z3)) (by rw [eK3];exact slice_row rfl rfl ⟨by decide,by decide⟩)
 rw [decide_eq_true rfl] at q1 q2 q3
 have xf:Ext h K3:=((((x1.trans x2).trans y2).trans z1).trans z2).trans z3
 rw [show ((2:Nat):Int)=2 from rfl] at e1 e3 e5
 rw [show ((4:Nat):Int)=4 from rfl] at e7
 refine callL_run func28 rfl rfl ?_
 have hsp:=@Nat.succ_ne_zero;repeat' (first|simp (disch:=first|exact dqb|fail) only [go_sem,↓reduceIte,hsp,e1,e2,e3,e4,e5,e6,e7,bs2,← eH8,e8,bs5,← eH9,e10,← eH11,bsM2,← eH12,e13,eq_self,decide_true,bs4,← eK1,q1,bs3,← eK2,q2,← eK3,q3]|refine WP_drw ?_|refine cnd_intro (fun hsp=>?_) fun hsp=>?_)
 exact fB rfl xf
end Go.AM
namespace Go.AM
open Go.Proofs.Try
attribute [-go_sem] put_ne put_same
attribute [local go_sem ↓] put_if
theorem perm_ord {n:Nat} {o:List Int} (h:o.Perm (upto n)):Ord n o:=⟨by rw [h.length_eq,upto_len],fun x hx=>upto_mem.1 (h.mem_iff.1 hx),h.nodup_iff.2 (upto_nd n)⟩
structure Risn (h H:Heap) (v0 v1:AVal) (l0 l1:List Int) (n:Nat) (w:AVal) (o:List Int):Prop where
 bd:1≤n∧n≤7
 ext:Ext h H
 own:OwnE encI 3 (h.length+2) H w o
 ord:Ord n o
 len:h.length+2≤H.length
 q:SpAt H (h.length+1) v1 l1 0
end Go.AM
namespace Go.AM
open Go.Proofs.Try
attribute [-go_sem] put_ne put_same
attribute [local go_sem ↓] put_if
structure MadeOk (T:Int) (C:List Int) (N:Nat):Prop where
 tb:1≤T∧T≤8
 n:1≤C.length∧C.length≤N
 c:∀ x ∈ C,0≤x∧x≤2 ^ T.toNat-1
 d:C.Nodup
theorem MadeOk.lac {T:Int} {C o:List Int} {N:Nat} {R:List Rw3} (x:MadeOk T C N) (hN:N≤7) (hR:R.length≤12) (hr:∀ r ∈ R,SeenOk T C o r):LacOk ⟨T,C,R⟩ :=
 ⟨x.tb,⟨x.n.1,by have:=x.n.2;simp only;omega⟩,hR,x.c,fun r h=>by
  obtain ⟨a,b,c,d⟩:=hr r h
  have h1:r.2.2.toNat≤r.2.1.toNat:=by rw [← d];exact Nat.and_le_right
  refine ⟨by omega,b,⟨c,by simp only;omega⟩,?_⟩
  rw [← d,Nat.and_assoc,Nat.and_self],x.d⟩
theorem MadeOk.xpl {T:Int} {C o:List Int} {N:Nat} {R:List Rw3} (x:MadeOk T C N) (ho:Ord C.length o) (hr:∀ r ∈ R,SeenOk T C o r):Xpl ⟨T,C,R⟩ o :=
 (xpl_rows (L:=⟨T,C,R⟩) (by have:=x.n.1;simp only;omega) ho.1).2 fun r h=>(hr r h).is
theorem stL48 {base:Nat} {l:List Oper} {s:St} {Q:AExit→St→Prop}:WP prog raw base (.region 12 l.toArray true) s Q=WPS prog raw base (.region 12 l.toArray true) s Q:=WP_stop
attribute [local go_sem ↓ 3000] stL48
set_option maxRecDepth 100000 in
set_option maxHeartbeats 4000000 in
theorem run_Made {base id k0 N:Nat} {h:Heap} {v:AVal} {silk:List Int} (hb:base≤h.length) (hS:SpAt h id v silk k0) (hk:k0≤100000) (hN:1≤N∧N≤7) :
  Ret prog raw base (.fn 44 [] []) [.ptr (some ⟨id,0,0⟩),.int .i64 (N:Int)] h (fun w H=>∃ T C o cv ov k',w=.tuple [.agg [.int .i64 T,cv,.slice none 0 0],ov]∧(k0≤k'∧k'≤k0+100)∧SpE h id v silk k' H∧Own encI 3 h.length H cv C∧OwnE encI 3 h.length H ov o∧MadeOk T C N∧Ord C.length o):=by
 have hid:=lt_of_get hS.1
 have hS0:SpAt (h++[lacB 0 (.slice none 0 0) (.slice none 0 0)]) id v silk k0:=hS.app
 have b1:=up_bd (silk:=silk) (k:=k0) (n:=8-1) (by omega)
 have b2:=up_bd (silk:=silk) (k:=k0+1) (n:=(N:Int)-1) (by omega)
 obtain ⟨G,eG⟩:∃ G,G=h++[lacB 0 (.slice none 0 0) (.slice none 0 0)]:=⟨_,rfl⟩
 rw [← eG] at hS0
 have lG:G.length=h.length+1:=by rw [eG];simp
 have xG:Ext h G:=by rw [eG];exact .app .refl
 have g0:G[h.length]?=some (lacB 0 (.slice none 0 0) (.slice none 0 0)):=by rw [eG];exact get_eq rfl
 have f1:=fun base=>run_from (base:=base) (lo:=1) (hi:=8) hS0 (by omega) (by omega) (by omega)
 obtain ⟨T,eT⟩:∃ T,T=1+up silk k0 (8-1):=⟨_,rfl⟩
 have hT:1≤T∧T≤8:=by omega
 rw [← eT] at f1
 obtain ⟨G1,eG1⟩:∃ G1,G1=G.set id (spB v silk (k0+1)):=⟨_,rfl⟩
 rw [← eG1] at f1
 have q1:SpE h id v silk (k0+1) G1:=by rw [eG1];exact ((SpE.refl hS).ext xG).step hid
 have l1:G1.length=h.length+1:=by rw [eG1,List.length_set,lG]
 have g1:G1[h.length]?=some (lacB 0 (.slice none 0 0) (.slice none 0 0)):=by rw [eG1,List.getElem?_set_ne (by omega)];exact g0
 obtain ⟨G2,eG2⟩:∃ G2,G2=G1++[lacB T (.slice none 0 0) (.slice none 0 0)]:=⟨_,rfl⟩
 have q2:SpE h id v silk (k0+1) G2:=by rw [eG2];exact q1.app
 have l2:G2.length=h.length+2:=by rw [eG2];simp [l1]
 have g2:G2[h.length]?=some (lacB 0 (.slice none 0 0) (.slice none 0 0)):=by rw [eG2];exact get_app g1
 have c2:G2[h.length+1]?=some (lacB T (.slice none 0 0) (.slice none 0 0)):=by rw [eG2];exact get_eq (by rw [l1])
 have f2:=fun base=>run_from (base:=base) (lo:=1) (hi:=(N:Int)) (q2.at hS) (by omega) (by omega) (by omega)
 obtain ⟨M,eM⟩:=Int.eq_ofNat_of_zero_le (show 0≤1+up silk (k0+1) ((N:Int)-1) by omega)
 have hM:1≤M∧M≤N:=by omega
 rw [eM] at f2
 obtain ⟨G3,eG3⟩:∃ G3,G3=G2.set id (spB v silk (k0+1+1)):=⟨_,rfl⟩
 rw [← eG3] at f2
 have q3:SpE h id v silk (k0+1+1) G3:=by rw [eG3];exact q2.step hid
 have l3:G3.length=h.length+2:=by rw [eG3,List.length_set,l2]
 have g3:G3[h.length]?=some (lacB 0 (.slice none 0 0) (.slice none 0 0)):=by rw [eG3,List.getElem?_set_ne (by omega)];exact g2
 have c3:G3[h.length+1]?=some (lacB T (.slice none 0 0) (.slice none 0 0)):=by rw [eG3,List.getElem?_set_ne (by omega)];exact c2
 obtain ⟨hw1,hw2⟩:=pow_le8 hT
 have sh:=shl_one (w:=T) (by omega) (by omega)
 obtain ⟨W,eW⟩:∃ W:Int,W=2 ^ T.toNat:=⟨_,rfl⟩
 rw [← eW] at sh hw1 hw2
 clear eT eM b1 b2
 rw [show h.length+1=G1.length from l1.symm] at c2 c3
 unfold lacB at eG eG2
 refine ret_raw func44 rfl (by kernel_rfl) ?_
 have hsp:=@Nat.succ_ne_zero;repeat' (first|simp (disch:=first|exact dqc|fail) only [go_sem,↓reduceIte,hsp,← eG,f1,← eG2,f2]|refine WP_drw ?_|refine cnd_intro (fun hsp=>?_) fun hsp=>?_)
 refine WP_count [(7,7),(14,46)] 0 M (Nat.zero_le _) (fun _ i fr K=>fr 14=.int .i64 (i:Int)∧∃ C cv k',(k0≤k'∧k'≤k0+2+4 * i)∧SpE h id v silk k' K∧K[h.length]?=some (lacB 0 (.slice none 0 0) (.slice none 0 0))∧K[G1.length]?=some (lacB T cv (.slice none 0 0))∧Own encI 3 (h.length+2) K cv C∧(0<i→1≤C.length)∧C.length≤i∧(∀ x ∈ C,0≤x∧x≤W-1)∧C.Nodup∧h.length+2≤K.length) ?_ ?_ ?_
 ·exact ⟨by (simp (disch:=first|exact dqc|fail) only [go_sem,↓reduceIte,Int.natCast_zero];first|done|rfl),[],_,k0+1+1,by omega,q3,g3,c3,Own.nil,by omega,by simp,by simp,by simp,by omega⟩
 ·rintro i fr K hi0 hi hA ⟨r14,C,cv,k',hk',xK,gK,cK,oC,hC0,hCl,hCb,hCn,lK⟩
  have p0:=hA 0 rfl
  have p4:=hA 4 rfl
  have p5:=hA 5 rfl
  have p6:=hA 6 rfl
  have p13:=hA 13 rfl
  try simp (disch:=first|exact dqc|fail) only [go_sem,↓reduceIte] at p0 p4 p5 p6 p13
  have hlt:((i:Int)<(M:Int))=True:=eq_true (by omega)
  have oc:=oC.one
  have hSK:=xK.at hS
  have ub1:=up_bd (silk:=silk) (k:=k') (n:=W-1) (by omega)
  have e1:=fun base=>run_upto (base:=base) (n:=W-1) hSK (by omega) (by omega)
  obtain ⟨K1,eK1⟩:∃ K1,K1=K.set id (spB v silk (k'+1)):=⟨_,rfl⟩
  rw [← eK1] at e1
  have xK1:SpE h id v silk (k'+1) K1:=by rw [eK1];exact xK.step hid
  have ub2:=up_bd (silk:=silk) (k:=k'+1) (n:=2) (by omega)
  have e2:=fun base=>run_upto (base:=base) (n:=2) (xK1.at hS) (by omega) (by omega)
  obtain ⟨z,ez⟩:=Int.eq_ofNat_of_zero_le ub2.1
  rw [ez] at e2 ub2
  obtain ⟨K2,eK2⟩:∃ K2,K2=K.set id (spB v silk (k'+1+1)):=⟨_,rfl⟩
  have eK12:K1.set id (spB v silk (k'+1+1))=K2:=by rw [eK1,List.set_set,eK2]
  rw [eK12] at e2
  generalize up silk k' (W-1)=x0 at ub1 e1
  have cK1:K1[G1.length]?=some (lacB T cv (.slice none 0 0)):=by rw [eK1,List.getElem?_set_ne (by omega)];exact cK
  unfold lacB at cK
  have hsp:=@Nat.succ_ne_zero;repeat' (first|simp (disch:=first|exact dqc|fail) only [go_sem,↓reduceIte,hsp,r14,p0,p4,p5,p6,p13,hlt,cK,sh,e1,e2]|refine WP_drw ?_|refine cnd_intro (fun hsp=>?_) fun hsp=>?_)
  refine WP_count [(7,7),(24,34)] 0 z (Nat.zero_le _) (fun _ j fr K'=>fr 24=.int .i64 (j:Int)∧∃ x k2,fr 7=.int .i64 x∧(0≤x∧x≤W-1)∧k2=k'+2+j∧K'=K.set id (spB v silk k2)) ?_ ?_ ?_
  ·exact ⟨by (simp (disch:=first|exact dqc|fail) only [go_sem,↓reduceIte,Int.natCast_zero];first|done|rfl),x0,k'+1+1,by simp (disch:=first|exact dqc|fail) only [go_sem,↓reduceIte],by omega,by omega,eK2⟩
  ·rintro j fr2 K' hj0 hj hA2 ⟨r24,x,k2,r7,hx,hk2,eK'⟩
   have q0:=hA2 0 rfl
   have q4:=hA2 4 rfl
   have q5:=hA2 5 rfl
   have q6:=hA2 6 rfl
   have q13:=hA2 13 rfl
   have q14:=hA2 14 rfl
   have q23:=hA2 23 rfl
   try simp (disch:=first|exact dqc|fail) only [go_sem,↓reduceIte,p0,p4,p5,p6,p13] at q0 q4 q5 q6 q13 q14 q23
   have hlt2:((j:Int)<(z:Int))=True:=eq_true (by omega)
   have cK':K'[G1.length]?=some (lacB T cv (.slice none 0 0)):=by rw [eK',List.getElem?_set_ne (by omega)];exact cK
   have xK':SpE h id v silk k2 K':=by rw [eK'];exact xK.step hid
   have ub3:=up_bd (silk:=silk) (k:=k2) (n:=W-1) (by omega)
   have e3:=fun base=>run_upto (base:=base) (n:=W-1) (xK'.at hS) (by omega) (by omega)
   obtain ⟨y,ey⟩:=Int.eq_ofNat_of_zero_le ub3.1
   rw [ey] at e3 ub3
   obtain ⟨x',ex'⟩:=Int.eq_ofNat_of_zero_le hx.1
   rw [ex'] at r7 hx
   have an:=andN (t:=3) (a:=x') (b:=y) (by omega) (by omega)
   have hle:x' &&& y≤x':=Nat.and_le_left
   have eK'':K'.set id (spB v silk (k2+1))=K.set id (spB v silk (k2+1)):=by rw [eK',List.set_set]
   rw [eK''] at e3
   unfold lacB at cK'
   have hsp:=@Nat.succ_ne_zero;repeat' (first|simp (disch:=first|exact dqc|fail) only [go_sem,↓reduceIte,hsp,r24,r7,q0,q4,q5,q6,q13,q14,q23,hlt2,cK',sh,e3,an]|refine WP_drw ?_|refine cnd_intro (fun hsp=>?_) fun hsp=>?_)
   exact ⟨agq,by omega,_,k2+1,rfl,by omega,by omega,rfl⟩
  ·rintro fr2 K' hA2 ⟨r24,x,k2,r7,hx,hk2,eK'⟩
   have q0:=hA2 0 rfl
   have q4:=hA2 4 rfl
   have q5:=hA2 5 rfl
   have q6:=hA2 6 rfl
   have q13:=hA2 13 rfl
   have q14:=hA2 14 rfl
   have q23:=hA2 23 rfl
   try simp (disch:=first|exact dqc|fail) only [go_sem,↓reduceIte,p0,p4,p5,p6,p13] at q0 q4 q5 q6 q13 q14 q23
   have hlt2:((z:Int)<(z:Int))=False:=eq_false (by omega)
   have cK':K'[G1.length]?=some (lacB T cv (.slice none 0 0)):=by rw [eK',List.getElem?_set_ne (by omega)];exact cK
   have gK':K'[h.length]?=some (lacB 0 (.slice none 0 0) (.slice none 0 0)):=by rw [eK',List.getElem?_set_ne (by omega)];exact gK
   have xK':SpE h id v silk k2 K':=by rw [eK'];exact xK.step hid
   have oC':Own encI 3 (h.length+2) K' cv C:=by rw [eK'];exact oC.set (by omega)
   have lK':K'.length=K.length:=by rw [eK',List.length_set]
   have iC:Ints K' cv C:=own_ints oC' ⟨by omega,fun y hy=>by have:=hCb y hy;omega⟩
   have hct:=fun base=>run_contains (base:=base) (x:=x) iC
   have cK'':=cK'
   unfold lacB at cK''
   by_cases cm:x ∈ C
   ·rw [decide_eq_true cm] at hct
    have hsp:=@Nat.succ_ne_zero;repeat' (first|simp (disch:=first|exact dqc|fail) only [go_sem,↓reduceIte,hsp,r14,r24,r7,q0,q4,q5,q6,q13,q14,q23,p0,p4,p5,p6,p13,hlt2,cK'',hct]|refine WP_drw ?_|refine cnd_intro (fun hsp=>?_) fun hsp=>?_)
    exact ⟨agq,by omega,C,cv,k2,by omega,xK',gK',rfl,oC',fun _=>List.length_pos_of_mem cm,by omega,hCb,hCn,by omega⟩
   ·rw [decide_eq_false cm] at hct
    obtain ⟨w',K3,ea,oW,lW,eW2,oneW,kW⟩:=OwnE.snocI (base:=base) (x:=x) (.inl oC') (by omega) (by omega) (by omega)
    have cK3:=kW.box cK'
    have gK3:=kW.box gK'
    unfold lacB at cK3
    have xK3:SpE h id v silk k2 K3:=eW2 _ (by rw [List.length_set];omega) xK'
    have hsp:=@Nat.succ_ne_zero;repeat' (first|simp (disch:=first|exact dqc|fail) only [go_sem,↓reduceIte,hsp,r14,r24,r7,q0,q4,q5,q6,q13,q14,q23,p0,p4,p5,p6,p13,hlt2,cK'',hct,ea,cK3]|refine WP_drw ?_|refine cnd_intro (fun hsp=>?_) fun hsp=>?_)
    refine ⟨agq,by omega,C++[x],w',k2,by omega,Ext.set xK3 (by rw [List.length_set];omega),gK3,rfl,Own.setBox oW cK3,fun _=>by simp,by simp;omega,fun y hy=>?_,?_,by omega⟩
    ·rcases List.mem_append.1 hy with hy|hy
     ·exact hCb y hy
     ·rw [List.mem_singleton] at hy;rw [hy];exact hx
    ·exact nodup_snoc.2 ⟨hCn,cm⟩
 ·rintro fr K hA ⟨r14,C,cv,k',hk',xK,gK,cK,oC,hC0,hCl,hCb,hCn,lK⟩
  have p0:=hA 0 rfl
  have p4:=hA 4 rfl
  have p5:=hA 5 rfl
  have p6:=hA 6 rfl
  have p13:=hA 13 rfl
  try simp (disch:=first|exact dqc|fail) only [go_sem,↓reduceIte] at p0 p4 p5 p6 p13
  have hlt:((M:Int)<(M:Int))=False:=eq_false (by omega)
  have oc:=oC.one
  have hc1:=hC0 (by omega)
  have iC:Ints K cv C:=own_ints oC ⟨by omega,fun y hy=>by have:=hCb y hy;omega⟩
  have hlc:=lenI iC
  obtain ⟨w,K2,eo,y,o,oo,hp⟩:=run_order (base:=base) (n:=C.length) (h:=K) (by omega) (xK.at hS) (by omega) (by omega)
  have xK2:SpE h id v silk (k'+C.length) K2:=(xK.step (k':=k'+C.length) hid).trans y
  have ow:=oo.one
  have ly:=y.len
  have cK2:K2[G1.length]?=some (lacB T cv (.slice none 0 0)):=y.get (by omega) cK
  have gK2:K2[h.length]?=some (lacB 0 (.slice none 0 0) (.slice none 0 0)):=y.get (by omega) gK
  have oC2:Own encI 3 (h.length+2) K2 cv C:=(oC.set (by omega)).ext y
  unfold lacB at cK cK2 gK2
  have hsp:=@Nat.succ_ne_zero;repeat' (first|simp (disch:=first|exact dqc|fail) only [go_sem,↓reduceIte,hsp,r14,p0,p4,p5,p6,p13,hlt]|refine WP_drw ?_|refine cnd_intro (fun hsp=>?_) fun hsp=>?_)
  refine WPS_go ?_
  have hlow:refsLow K.length (.agg [.int .i64 T,cv,.slice none 0 0]):=by
   have:=oC.low_refs
   simpa [refsLow,AVal.refs,refsL] using this
  refine WP_wild [⟨0,44,6,⟨G1.length,0,0⟩,.agg [.int .i64 T,cv,.slice none 0 0],6⟩] (by kernel_rfl) (by kernel_rfl) (by kernel_rfl) ⟨hlow,trivial⟩ fun K3 hK=>?_
  iterate 8
   rw [TRS_cons]
   refine ⟨by first|(simp (disch:=first|exact dqc|fail) only [go_sem,↓reduceIte,p0,p4,p5,p6,p13,cK,hlc,eo,cK2,gK2,ldsQ_cons,ldsQ_nil,grdQ_cons,grdQ_nil,if_true,Nat.reduceLeDiff];done)|exact trivial,?_⟩
   simp (disch:=first|exact dqc|fail) only [go_sem,↓reduceIte,p0,p4,p5,p6,p13,cK,hlc,eo,cK2,gK2]
  rw [TRS_nil]
  refine ⟨by first|(simp (disch:=first|exact dqc|fail) only [go_sem,↓reduceIte,p0,p4,p5,p6,p13,cK,hlc,eo,cK2,gK2,ldsQ_cons,ldsQ_nil,grdQ_cons,grdQ_nil,if_true,Nat.reduceLeDiff];done)|exact trivial,?_⟩
  subst hK
  have hsp:=@Nat.succ_ne_zero;repeat' (first|simp (disch:=first|exact dqc|fail) only [go_sem,↓reduceIte,hsp,p0,p4,p5,p6,p13]|refine WP_drw ?_|refine cnd_intro (fun hsp=>?_) fun hsp=>?_)
  exact ⟨T,C,o,cv,_,k'+C.length,rfl,by omega,Ext.set xK2 (by rw [List.length_set];omega),(oC2.setBox gK2).low (by omega),(oo.setBox gK2).low (by omega),⟨hT,by omega,by rw [← eW];exact hCb,hCn⟩,perm_ord hp⟩
end Go.AM
namespace Go.AM
open Go.Proofs.Try
attribute [-go_sem] put_ne put_same
attribute [local go_sem ↓] put_if
end Go.AM
namespace Go.AM
open Go.Proofs.Try
attribute [-go_sem] put_ne put_same
attribute [local go_sem ↓] put_if
structure Strt (G H:Heap) (id:Nat) (v:AVal) (silk:List Int) (b:Nat) (T:Int) (C:List Int) (R:List Rw3) (o:List Int) (cv rv ov:AVal) (k N most:Nat):Prop where
 sp:SpE G id v silk k H
 k:k≤1000
 g:H[b]?=some (lacB T cv rv)
 b:G.length≤b∧b<H.length
 oC:OwnE encI 3 G.length H cv C
 oR:OwnE encR 70 G.length H rv R
 oO:OwnE encI 3 G.length H ov o
 made:MadeOk T C N
 ord:Ord C.length o
 seen:∀ r ∈ R,SeenOk T C o r
 rl:R.length≤most
section
variable {G H:Heap} {id:Nat} {v:AVal} {silk:List Int} {b:Nat} {T:Int} {C:List Int} {R:List Rw3} {o:List Int} {cv rv ov:AVal} {k N most:Nat}
end
theorem fndE_in {L:Lac} {o:List Int} (hc:chkL L=0) (h:o ∈ fnd L):fndE L=(fnd L,0)∧fnd L ≠ []:=by
 have hne:fnd L ≠ []:=fun q=>by rw [q] at h;cases h
 exact ⟨by unfold fndE;rw [if_neg (by simp [hc]),if_neg hne],hne⟩
theorem found_all {L:Lac} {o:List Int} (hc:chkL L=0) (h:o ∈ fnd L):cntE L=(((fnd L).length:Int),0)∧kwnE L=(knwL L.C.length (fnd L),0)∧frsE L=((fnd L).headD [],0)∧(fnd L).headD [] ∈ fnd L∧askE L=((askN L.C.length (fnd L) L.C.length).1,(askN L.C.length (fnd L) L.C.length).2,0)∧dcdE L=(dcdL L.C.length (fnd L),0)∧1≤(fnd L).length:=by
 obtain ⟨e,hne⟩:=fndE_in hc h
 refine ⟨?_,?_,?_,?_,?_,?_,List.length_pos_of_mem h⟩
 ·unfold cntE;rw [e];simp
 ·unfold kwnE;rw [e];simp
 ·unfold frsE;rw [e];simp
 ·cases q:fnd L with
  | nil=>exact absurd q hne
  | cons a l=>simp
 ·unfold askE;rw [e];simp
 ·unfold dcdE;rw [e];simp
theorem fnd_bd {L:Lac} {o:List Int} {p:Nat} (ho:o ∈ fnd L) (hp:p<L.C.length):0≤o.getD p 0∧o.getD p 0<(L.C.length:Int):=(ord_at (fnd_ord ho) hp).2
end Go.AM
namespace Go.AM
section
variable {n:Nat} {os:List (List Int)} (hn:os.Nodup) (ho:∀ o ∈ os,Ord n o)
include hn ho
end
theorem and_full {c T:Nat} (h:c<2 ^ T):c &&& (2 ^ T-1)=c:=by rw [Nat.and_two_pow_sub_one_eq_mod,Nat.mod_eq_of_lt h]
def lookR (L:Lac) (p k:Nat):Rw3:=((p:Int),2 ^ L.T.toNat-1,L.C.getD k 0)
theorem pow_cast {T:Nat}:((2:Int) ^ T-1)=((2 ^ T-1:Nat):Int):=by
 have:=Nat.one_le_two_pow (n:=T)
 rw [Int.natCast_sub this];simp
theorem card_lt {L:Lac} (hL:LacOk L) {k:Nat} (hk:k<L.C.length):(L.C.getD k 0).toNat<2 ^ L.T.toNat∧0≤L.C.getD k 0:=by
 have h:=hL.c _ (getD_mem' (d:=(0:Int)) hk)
 have:=Nat.one_le_two_pow (n:=L.T.toNat)
 have e:=pow_cast (T:=L.T.toNat)
 omega
theorem look_fit {L:Lac} (hL:LacOk L) {k j:Nat} (hk:k<L.C.length) (hj:j<L.C.length):(L.C.getD j 0).toNat &&& ((2:Int) ^ L.T.toNat-1).toNat=(L.C.getD k 0).toNat ↔ j=k:=by
 obtain ⟨a1,a2⟩:=card_lt hL hk
 obtain ⟨b1,b2⟩:=card_lt hL hj
 rw [pow_cast,Int.toNat_natCast,and_full b1]
 constructor
 ·intro e
  have e2:L.C.getD j 0=L.C.getD k 0:=by omega
  rw [getD_at hj,getD_at hk] at e2
  exact nodup_inj hL.d _ _ e2
 ·rintro rfl;rfl
theorem look_row {L:Lac} (hL:LacOk L) {p k:Nat} (hp:p<L.C.length) (hk:k<L.C.length):(0≤(lookR L p k).1∧(lookR L p k).1≤999)∧(0≤(lookR L p k).2.1∧(lookR L p k).2.1≤2 ^ L.T.toNat-1)∧(0≤(lookR L p k).2.2∧(lookR L p k).2.2≤2 ^ L.T.toNat-1)∧(lookR L p k).2.2.toNat &&& (lookR L p k).2.1.toNat=(lookR L p k).2.2.toNat:=by
 have hn:=hL.n
 have h:=hL.c _ (getD_mem' (d:=(0:Int)) hk)
 have e:=pow_cast (T:=L.T.toNat)
 unfold lookR
 refine ⟨by simp only;omega,by simp only;omega,h,?_⟩
 exact (look_fit hL hk hk).2 rfl
theorem rows_app {L:Lac} {R:List Rw3} {x:List Int} (hn:0<L.C.length):x ∈ fnd ⟨L.T,L.C,L.R++R⟩ ↔ x ∈ fnd L∧∀ r ∈ R,(L.C.getD (x.getD (r.1.toNat % L.C.length) 0).toNat 0).toNat &&& r.2.1.toNat=r.2.2.toNat:=by
 rw [fnd_mem,fnd_mem]
 constructor
 ·rintro ⟨h1,h2⟩
  have h3:=(xpl_rows (L:=⟨L.T,L.C,L.R++R⟩) hn h1.1).1 h2
  exact ⟨⟨h1,(xpl_rows hn h1.1).2 fun r hr=>h3 r (List.mem_append_left _ hr)⟩,fun r hr=>h3 r (List.mem_append_right _ hr)⟩
 ·rintro ⟨⟨h1,h2⟩,h3⟩
  refine ⟨h1,(xpl_rows (L:=⟨L.T,L.C,L.R++R⟩) hn h1.1).2 fun r hr=>?_⟩
  rcases List.mem_append.1 hr with q|q
  ·exact (xpl_rows hn h1.1).1 h2 r q
  ·exact h3 r q
theorem shown_ok {L:Lac} (hL:LacOk L) {o ps:List Int} (ho:Ord L.C.length o) (hp:∀ p ∈ ps,0≤p∧p<(L.C.length:Int)) (hl:L.R.length+ps.length≤12):LacOk (shwL L o ps) :=
 ⟨hL.T,hL.n,by simp [shwL,looks];omega,hL.c,fun r hr=>by
  rcases List.mem_append.1 hr with q|q
  ·exact hL.r r q
  ·obtain ⟨p,hpm,rfl⟩:=List.mem_map.1 q
   have h1:=hp p hpm
   have h2:=ord_at ho (i:=p.toNat) (by omega)
   have:=look_row hL (p:=p.toNat) (k:=(o.getD p.toNat 0).toNat) (by omega) (by omega)
   unfold lookR at this
   rw [Int.toNat_of_nonneg h1.1] at this
   exact this,hL.d⟩
theorem fnd_shown {L:Lac} (hL:LacOk L) {o ps x:List Int} (ho:Ord L.C.length o) (hp:∀ p ∈ ps,0≤p∧p<(L.C.length:Int)):x ∈ fnd (shwL L o ps) ↔ x ∈ fnd L∧∀ p ∈ ps,x.getD p.toNat 0=o.getD p.toNat 0:=by
 have hn:=hL.n
 unfold shwL
 rw [rows_app (by omega)]
 refine and_congr_right fun hx=>?_
 unfold looks
 rw [List.forall_mem_map]
 refine forall_congr' fun p=>forall_congr' fun hpm=>?_
 have h1:=hp p hpm
 have h2:=ord_at ho (i:=p.toNat) (by omega)
 have hb:=fnd_bd hx (p:=p.toNat) (by omega)
 simp only
 rw [Nat.mod_eq_of_lt (by omega),look_fit hL (by omega) (by omega)]
 omega
def lvsK (os:List (List Int)) (p k:Nat):Int:=grt (lst (fun k=>(os.countP fun o=>decide (o.getD p 0=(k:Int)):Nat)) k)
theorem lvsK_all {n:Nat} {os:List (List Int)} {p:Nat}:lvsK os p n=lvsN n os p:=rfl
end Go.AM
namespace Go.AM
open Go.Proofs.Try
attribute [-go_sem] put_ne put_same
attribute [local go_sem ↓] put_if
end Go.AM
namespace Go.AM
open Go.Proofs.Try
attribute [-go_sem] put_ne put_same
attribute [local go_sem ↓] put_if
end Go.AM
namespace Go.AM
open Go.Proofs.Try
attribute [-go_sem] put_ne put_same
attribute [local go_sem ↓] put_if
end Go.AM
namespace Go.AM
open Go.Proofs.Try
attribute [-go_sem] put_ne put_same
attribute [local go_sem ↓] put_if
structure Fnd (h K:Heap) (b:Nat) (v1:AVal) (l1:List Int) (T:Int) (C o:List Int) (cv ov:AVal) (kq:Nat) (rw':AVal) (Ri:List Rw3) (i:Nat):Prop where
 fq:K[h.length+1]?=some (spB v1 l1 kq)
 fk:kq≤10 * i
 ext:Ext h K
 fb:h.length+2≤b∧b<K.length
 fg:K[b]?=some (lacB T cv rw')
 oC:OwnE encI 3 (h.length+2) K cv C
 oO:OwnE encI 3 (h.length+2) K ov o
 oR:OwnE encR 70 (h.length+2) K rw' Ri
 ok:LacOk ⟨T,C,Ri⟩
 rl:Ri.length≤8+i
 first:i=0→o ∈ fnd ⟨T,C,Ri⟩
end Go.AM
namespace Go.AM
open Go.Proofs.Try
attribute [-go_sem] put_ne put_same
attribute [local go_sem ↓] put_if
abbrev chV (W:Int) (v:AVal) (k s:Int):AVal:=.agg [.int .i64 W,v,.int .i64 k,.int .i64 s]
abbrev chB (W:Int) (v:AVal) (k s:Int):ABlk:=⟨.cells [.int .i64 W,v,.int .i64 k,.int .i64 s] 111 false false,0⟩
theorem pow_lt {w:Nat} (hw:w≤60):1≤2 ^ w∧2 ^ w≤1152921504606846976:=⟨Nat.one_le_two_pow,by have:=Nat.pow_le_pow_right (show 0<2 by decide) hw;simpa using this⟩
theorem shl_bit {t:TypeId} {w:Nat} (hw:w≤60):binA prog .shl t (.int .i64 1) (.int .i64 (w:Int))=some (.int .i64 ((2 ^ w:Nat):Int)):=by
 have:=pow_lt hw
 rw [bin_shl (by omega)]
 have e:min (w:Int).toNat IntKind.i64.bits=w:=by simp [IntKind.bits];omega
 rw [e,Int.one_mul,show ((2:Int) ^ w)=((2 ^ w:Nat):Int) by simp,wrap64 (by omega) (by omega)]
theorem and_mask {t:TypeId} {a w:Nat} (ha:a<1152921504606846976) (hw:w≤60):binA prog .and t (.int .i64 (a:Int)) (.int .i64 (((2 ^ w:Nat):Int)-1))=some (.int .i64 ((a % 2 ^ w:Nat):Int)):=by
 have hp:=pow_lt hw
 have e0:((2 ^ w:Nat):Int)-1=((2 ^ w-1:Nat):Int):=by omega
 rw [e0]
 have e:BitVec.ofInt 64 (a:Int) &&& BitVec.ofInt 64 ((2 ^ w-1:Nat):Int)=BitVec.ofNat 64 (a % 2 ^ w):=by
  apply BitVec.eq_of_toNat_eq
  rw [BitVec.toNat_and,BitVec.ofInt_natCast,BitVec.ofInt_natCast,BitVec.toNat_ofNat,BitVec.toNat_ofNat,BitVec.toNat_ofNat,Nat.mod_eq_of_lt (a:=a) (by omega),Nat.mod_eq_of_lt (a:=2 ^ w-1) (by omega),Nat.and_two_pow_sub_one_eq_mod]
  have:=Nat.mod_le a (2 ^ w)
  rw [Nat.mod_eq_of_lt (a:=a % 2 ^ w) (by omega)]
 have:=Nat.mod_le a (2 ^ w)
 show some (AVal.int .i64 (IntKind.i64.wrap ((BitVec.ofInt 64 (a:Int) &&& BitVec.ofInt 64 ((2 ^ w-1:Nat):Int)).toNat:Int)))=_
 rw [e,BitVec.toNat_ofNat,Nat.mod_eq_of_lt (by omega),wrap64 (by omega) (by omega)]
theorem or_zero {t:TypeId} {a:Nat} (ha:a<1152921504606846976):binA prog .or t (.int .i64 (a:Int)) (.int .i64 0)=some (.int .i64 (a:Int)):=by
 have e:BitVec.ofInt 64 (a:Int) ||| BitVec.ofInt 64 0=BitVec.ofNat 64 a:=by
  apply BitVec.eq_of_toNat_eq
  rw [BitVec.toNat_or,BitVec.ofInt_natCast]
  simp
 show some (AVal.int .i64 (IntKind.i64.wrap ((BitVec.ofInt 64 (a:Int) ||| BitVec.ofInt 64 0).toNat:Int)))=_
 rw [e,BitVec.toNat_ofNat,Nat.mod_eq_of_lt (by omega),wrap64 (by omega) (by omega)]
theorem run_inC {base:Nat} {h:Heap} {n lo hi:Int}:callL prog raw base (.fn 142 [] []) [.int .i64 n,.int .i64 lo,.int .i64 hi] h=some (.bool (decide (lo≤n∧n≤hi)),h):=by
 refine callL_run func142 rfl rfl ?_
 by_cases h1:lo≤n
 ·have t1:(n ≥ lo)=True:=eq_true h1
  have hsp:=@Nat.succ_ne_zero;repeat' (first|simp (disch:=first|exact dqb|fail) only [go_sem,↓reduceIte,hsp,t1]|refine WP_drw ?_|refine cnd_intro (fun hsp=>?_) fun hsp=>?_)
  refine fB ?_
  simp [h1]
 ·have t1:(n ≥ lo)=False:=eq_false h1
  have hsp:=@Nat.succ_ne_zero;repeat' (first|simp (disch:=first|exact dqb|fail) only [go_sem,↓reduceIte,hsp,t1]|refine WP_drw ?_|refine cnd_intro (fun hsp=>?_) fun hsp=>?_)
  refine fB ?_
  simp [h1]
attribute [go_sem] run_inC
theorem run_known0 {base:Nat} {h:Heap}:callL prog raw base (.fn 145 [] []) [.int .i64 0] h=some (.bool true,h):=by
 refine callL_run func145 rfl rfl ?_
 have hsp:=@Nat.succ_ne_zero;repeat' (first|simp (disch:=first|exact dqb|fail) only [go_sem,↓reduceIte,hsp]|refine WP_drw ?_|refine cnd_intro (fun hsp=>?_) fun hsp=>?_)
 exact fB rfl
theorem run_planC {base:Nat} {h:Heap} {v:AVal} {l:List Int} {W k s:Int} (hI:Ints h v l):callL prog raw base (.fn 170 [] []) [chV W v k s] h=some (.agg [.int .i64 k,.int .i64 (l.length:Int),.int .i64 s],h):=by
 have o:=hI.one
 refine callL_run func170 rfl rfl ?_
 have hsp:=@Nat.succ_ne_zero;repeat' (first|simp (disch:=first|exact dqb|fail) only [go_sem,↓reduceIte,hsp]|refine WP_drw ?_|refine cnd_intro (fun hsp=>?_) fun hsp=>?_)
 exact fin_pl rfl rfl (.app (.app .refl))
theorem run_stepped0 {base:Nat} {h:Heap} {n W:Int}:callL prog raw base (.fn 146 [] []) [.agg [.int .i64 0,.int .i64 n,.int .i64 0],.int .i64 W] h=some (.bool true,h):=by
 refine callL_run func146 rfl rfl ?_
 have hsp:=@Nat.succ_ne_zero;repeat' (first|simp (disch:=first|exact dqb|fail) only [go_sem,↓reduceIte,hsp]|refine WP_drw ?_|refine cnd_intro (fun hsp=>?_) fun hsp=>?_)
 exact fB (by simp) (.app .refl)
theorem run_takerC {base:Nat} {h:Heap} {n W:Int}:callL prog raw base (.fn 171 [] []) [.agg [.int .i64 0,.int .i64 n,.int .i64 0],.int .i64 W] h=some (.agg [.fn 196 [] [.ptr (some ⟨h.length,0,0⟩)]],h++[⟨.cells [.int .i64 n] 3 false false,0⟩]):=by
 have of:∀ {f:FuncId} {c:List AVal},One (.fn f [] c):=fun {f c}=>⟨rfl,rfl,rfl⟩
 have n3:∀ {js:List Nat} {u:Nat},newId h.length (js.map fun j=>h.length+j) (h.length+1+1+1) u=(h.length+js.idxOf 3,0):=fun {js u}=>newId_map (j:=3)
 refine callL_run func171 rfl rfl ?_
 have hsp:=@Nat.succ_ne_zero;repeat' (first|simp (disch:=first|exact dqb|fail) only [go_sem,↓reduceIte,hsp,of]|refine WP_drw ?_|refine cnd_intro (fun hsp=>?_) fun hsp=>?_)
 rw [List.append_assoc,List.append_assoc,List.append_assoc]
 rw [compact_many (js:=[3]) (by simp [AVal.refs,refsL]) (by decide) (by decide) (by
  intro j hj
  simp only [List.mem_singleton] at hj
  subst hj
  exact ⟨_,_,_,_,rfl,rfl⟩)]
 simp only [AVal.ren,renL,n3]
 rfl
theorem run_taken {base i:Nat} {H:Heap} {n t:Nat} (hg:H[i]?=some ⟨.cells [.int .i64 (n:Int)] 3 false false,0⟩) (hn:0<n):callL prog raw base (.fn 196 [] [.ptr (some ⟨i,0,0⟩)]) [.int .i64 (t:Int)] H=some (.tuple [.int .i64 ((t % n:Nat):Int),.int .i64 0],H):=by
 have r:binA prog .rem 3 (.int .i64 (t:Int)) (.int .i64 (n:Int))=some (.int .i64 ((t % n:Nat):Int)):=by rw [bin_rem (by omega),tmodN]
 refine callL_run func196 rfl rfl ?_
 have hsp:=@Nat.succ_ne_zero;repeat' (first|simp (disch:=first|exact dqb|fail) only [go_sem,↓reduceIte,hsp,hg,r]|refine WP_drw ?_|refine cnd_intro (fun hsp=>?_) fun hsp=>?_)
 exact fII rfl rfl .refl
theorem run_moved0 {base:Nat} {h:Heap} {a w:Nat} (hw:w≤8) (ha:a<2 ^ w):callL prog raw base (.fn 172 [] []) [.int .i64 (a:Int),.int .i64 0,.int .i64 (w:Int)] h=some (.int .i64 (a:Int),h):=by
 have hp:2 ^ w≤256:=by have:=Nat.pow_le_pow_right (show 0<2 by decide) hw;simpa using this
 have e1:binA prog .shl 3 (.int .i64 (a:Int)) (.int .i64 0)=some (.int .i64 (a:Int)):=by
  rw [bin_shl (by omega)]
  simp only [Int.toNat_zero,Nat.zero_min,Int.pow_zero,Int.mul_one]
  rw [wrap64 (by omega) (by omega)]
 have e2:binA prog .shr 3 (.int .i64 (a:Int)) (.int .i64 (w:Int))=some (.int .i64 0):=by
  rw [bin_shr (by omega)]
  have e:min (w:Int).toNat IntKind.i64.bits=w:=by simp [IntKind.bits];omega
  rw [e,show ((2:Int) ^ w)=((2 ^ w:Nat):Int) by simp,Int.fdiv_eq_ediv_of_nonneg _ (by omega),Int.ediv_eq_zero_of_lt (by omega) (by omega)]
 have e3:=fun t=>or_zero (t:=t) (a:=a) (by omega)
 have e4:=fun t=>shl_bit (t:=t) (w:=w) (by omega)
 have e5:=fun t=>and_mask (t:=t) (a:=a) (w:=w) (by omega) (by omega)
 have e6:a % 2 ^ w=a:=Nat.mod_eq_of_lt ha
 rw [e6] at e5
 refine callL_run func172 rfl rfl ?_
 have hsp:=@Nat.succ_ne_zero;repeat' (first|simp (disch:=first|exact dqb|fail) only [go_sem,↓reduceIte,hsp,e1,e2,e3,e4,e5,Int.sub_zero]|refine WP_drw ?_|refine cnd_intro (fun hsp=>?_) fun hsp=>?_)
 exact fI rfl
def Crds (w:Nat) (l:List Int):Prop:=∀ x ∈ l,0≤x∧x<((2 ^ w:Nat):Int)
theorem run_liftC {base:Nat} {h:Heap} {v:AVal} {l:List Int} {w t:Nat} (hI:Ints h v l) (hl:0<l.length) (hw:w≤8) (hC:Crds w l):callL prog raw base (.fn 143 [] []) [chV (w:Int) v 0 0,.int .i64 (t:Int)] h=some (.int .i64 (l.getD (t % l.length) 0),h):=by
 have o:=hI.one
 have hm:=Nat.mod_lt t hl
 have hx:=hC _ (getD_mem (l:=l) (i:=t % l.length) hm)
 obtain ⟨x,ex⟩:∃ x:Nat,l.getD (t % l.length) 0=(x:Int):=⟨(l.getD (t % l.length) 0).toNat,by omega⟩
 have rp:=fun base H (e:Ext h H)=>run_planC (base:=base) (W:=(w:Int)) (k:=0) (s:=0) (hI.ext e)
 have rp1:∀ {base:Nat} {a:ABlk},callL prog raw base (.fn 170 [] []) [chV (w:Int) v 0 0] (h++[a])=some (.agg [.int .i64 0,.int .i64 (l.length:Int),.int .i64 0],h++[a]):=fun {base a}=>rp base _ (.app .refl)
 have rt2:∀ {base:Nat} {a:ABlk},callL prog raw base (.fn 196 [] [.ptr (some ⟨h.length+1,0,0⟩)]) [.int .i64 (t:Int)] (h++[a]++[⟨.cells [.int .i64 (l.length:Int)] 3 false false,0⟩])=some (.tuple [.int .i64 ((t % l.length:Nat):Int),.int .i64 0],h++[a]++[⟨.cells [.int .i64 (l.length:Int)] 3 false false,0⟩]):=fun {base a}=>run_taken (get_eq (by simp)) hl
 have mv:=fun base H=>run_moved0 (base:=base) (h:=H) (a:=x) (w:=w) hw (by omega)
 refine callL_run func143 rfl rfl ?_
 have hsp:=@Nat.succ_ne_zero;repeat' (first|simp (disch:=first|exact dqb|fail) only [go_sem,↓reduceIte,hsp,rp1,run_takerC,rt2,ex,mv]|refine WP_drw ?_|refine cnd_intro (fun hsp=>?_) fun hsp=>?_)
 exact fI rfl (.app (.app .refl))
end Go.AM
namespace Go.AM
open Go.Proofs.Try
attribute [-go_sem] put_ne put_same
attribute [local go_sem ↓] put_if
theorem not_C {base id:Nat} {h:Heap} {g:AVal} {x:Int} {b:Bool} (hid:h[id]?=some ⟨.cells [g] 106 false false,0⟩) (hg:∀ base T,callL prog raw base g [.int .i64 x] (h++T)=some (.bool b,h++T)) :
  callL prog raw base (.fn 193 [] [.ptr (some ⟨id,0,0⟩)]) [.int .i64 x] h=some (.bool (!b),h):=by
 have hgi:=lt_of_get hid
 have hg0:∀ base,callL prog raw base g [.int .i64 x] h=some (.bool b,h):=fun base=>by have:=hg base [];rwa [List.append_nil] at this
 refine callL_run func193 rfl rfl ?_
 have hsp:=@Nat.succ_ne_zero;repeat' (first|simp (disch:=first|exact dqb|fail) only [go_sem,↓reduceIte,hsp,hid,hg,hg0]|refine WP_drw ?_|refine cnd_intro (fun hsp=>?_) fun hsp=>?_)
 exact fB rfl
theorem every_C {base:Nat} {h:Heap} {v g:AVal} {l:List (Int)} (p:Int→Bool) (hR:Ints h v l) (hg:∀ base T x,x ∈ l→callL prog raw base g [.int .i64 x] (h++T)=some (.bool (p x),h++T)) (h1:One g) :
  callL prog raw base (.fn 168 [] []) [v,g] h=some (.bool (l.all p),h):=by
 have hc:=any_I (base:=h.length) (h:=h++[⟨.cells [g] 106 false false,0⟩]) (g:=.fn 193 [] [.ptr (some ⟨h.length,0,0⟩)]) (fun x=>!p x) (by simp) ⟨rfl,rfl,rfl⟩ hR.app (fun x hx=>not_C (x:=x) (get_eq rfl) (fun base T=>by have:=hg base ([⟨.cells [g] 106 false false,0⟩]++T) x hx;rwa [← List.append_assoc] at this))
 refine callL_run func168 rfl rfl ?_
 have hsp:=@Nat.succ_ne_zero;repeat' (first|simp (disch:=first|exact dqb|fail) only [go_sem,↓reduceIte,hsp,hc]|refine WP_drw ?_|refine cnd_intro (fun hsp=>?_) fun hsp=>?_)
 refine fB ?_
 rw [List.any_eq_not_all_not]
 simp
theorem run_chk1C {base id:Nat} {h:Heap} {v:AVal} {w:Nat} {x:Int} (hg:h[id]?=some (chB (w:Int) v 0 0)) (hw:w≤8) (hx:0≤x∧x<((2 ^ w:Nat):Int)):callL prog raw base (.fn 169 [] [.ptr (some ⟨id,0,0⟩)]) [.int .i64 x] h=some (.bool true,h):=by
 have hp:=pow_lt (w:=w) (by omega)
 have e4:=fun t=>shl_bit (t:=t) (w:=w) (by omega)
 have t1:(0≤x∧x≤((2 ^ w:Nat):Int)-1)=True:=eq_true (by omega)
 refine callL_run func169 rfl rfl ?_
 have hsp:=@Nat.succ_ne_zero;repeat' (first|simp (disch:=first|exact dqb|fail) only [go_sem,↓reduceIte,hsp,hg,chB,e4,t1]|refine WP_drw ?_|refine cnd_intro (fun hsp=>?_) fun hsp=>?_)
 exact fB rfl .refl
theorem run_checkC {base:Nat} {h:Heap} {v:AVal} {l:List Int} {w:Nat} (hI:Ints h v l) (hl:1≤l.length∧l.length≤48) (hw:1≤w∧w≤8) (hC:Crds w l):callL prog raw base (.fn 141 [] []) [chV (w:Int) v 0 0] h=some (.int .i64 0,h):=by
 have o:=hI.one
 have t1:(1≤(w:Int)∧(w:Int)≤8)=True:=eq_true (by omega)
 have t2:(1≤(l.length:Int)∧(l.length:Int)≤48)=True:=eq_true (by omega)
 have ev:∀ {base:Nat} {T:Heap},T=h++[chB (w:Int) v 0 0]→callL prog raw base (.fn 168 [] []) [v,.fn 169 [] [.ptr (some ⟨h.length,0,0⟩)]] T=some (.bool true,T):=fun {base T} e=>by
  have hg:T[h.length]?=some (chB (w:Int) v 0 0):=by rw [e];exact get_eq rfl
  have:=every_C (base:=base) (h:=T) (v:=v) (g:=.fn 169 [] [.ptr (some ⟨h.length,0,0⟩)]) (l:=l) (fun _=>true) (by rw [e];exact hI.app) (fun base T x hx=>run_chk1C (get_app hg) hw.2 (hC x hx)) ⟨rfl,rfl,rfl⟩
  rwa [show (l.all fun _=>true)=true from List.all_eq_true.2 fun _ _=>rfl] at this
 have ev2:=fun base=>ev (base:=base) rfl
 have rp1:∀ {base:Nat} {a:ABlk},callL prog raw base (.fn 170 [] []) [chV (w:Int) v 0 0] (h++[a])=some (.agg [.int .i64 0,.int .i64 (l.length:Int),.int .i64 0],h++[a]):=fun {base a}=>run_planC (hI.ext (.app .refl))
 unfold chB at ev2
 refine callL_run func141 rfl rfl ?_
 have hsp:=@Nat.succ_ne_zero;repeat' (first|simp (disch:=first|exact dqb|fail) only [go_sem,↓reduceIte,hsp,t1,t2,run_known0,ev2,rp1,run_stepped0]|refine WP_drw ?_|refine cnd_intro (fun hsp=>?_) fun hsp=>?_)
 exact fI rfl (.app .refl)
def wvC (l:List Int) (n:Nat):List Int:=lst (fun t=>l.getD (t % l.length) 0) n
set_option maxHeartbeats 1000000 in
theorem run_weaveC {base:Nat} {h:Heap} {v:AVal} {l:List Int} {w n:Nat} (hb:base≤h.length) (hI:Ints h v l) (hl:1≤l.length∧l.length≤48) (hw:1≤w∧w≤8) (hC:Crds w l) (hn:1≤n∧n≤48) :
  Ret prog raw base (.fn 83 [] []) [chV (w:Int) v 0 0,.int .i64 (n:Int)] h (fun r H=>Ext h H∧∃ x,r=.tuple [.agg [.int .i64 (w:Int),x],.int .i64 0]∧Own encI 3 h.length H x (wvC l n)):=by
 have o:=hI.one
 have t1:(1≤(n:Int)∧(n:Int)≤48)=True:=eq_true (by omega)
 obtain ⟨h2,eh2⟩:∃ h2,h2=h++[chB (w:Int) v 0 0]++[⟨.cells [.int .i64 0,.slice none 0 0] 113 false false,0⟩]:=⟨_,rfl⟩
 have x2:Ext h h2:=by rw [eh2];exact .app (.app .refl)
 have hl2:h2.length=h.length+2:=by rw [eh2];simp
 have gc:h2[h.length]?=some (chB (w:Int) v 0 0):=by rw [eh2];exact get_app (get_eq rfl)
 have gp:h2[h.length+1]?=some ⟨.cells [.int .i64 0,.slice none 0 0] 113 false false,0⟩:=by rw [eh2];exact get_eq (by simp)
 have ck:=fun base=>run_checkC (base:=base) (hI.ext x2) hl hw hC
 unfold chB at eh2
 refine ret_raw func83 rfl (by kernel_rfl) ?_
 have hsp:=@Nat.succ_ne_zero;repeat' (first|simp (disch:=first|exact dqb|fail) only [go_sem,↓reduceIte,hsp,← eh2,gc,chB,ck,t1]|refine WP_drw ?_|refine cnd_intro (fun hsp=>?_) fun hsp=>?_)
 refine WP_count [(8,8),(23,34)] 0 n (Nat.zero_le _) (fun _ i fr h'=>fr 23=.int .i64 (i:Int)∧∃ x,Ext h2 h'∧h'[h2.length]?=some ⟨.cells [.int .i64 (w:Int),x] 113 false false,0⟩∧Own encI 3 (h2.length+1) h' x (wvC l i)∧h2.length<h'.length) ?_ ?_ ?_
 ·exact ⟨by (simp (disch:=first|exact dqb|fail) only [go_sem,↓reduceIte,Int.natCast_zero];first|done|rfl),_,.app .refl,get_eq rfl,Own.nil,by simp⟩
 ·rintro i fr H hi0 hi hA ⟨p23,x,xH,gH,oH,hH⟩
  have p2:=hA 2 rfl
  have p4:=hA 4 rfl
  have p5:=hA 5 rfl
  have p7:=hA 7 rfl
  have p22:=hA 22 rfl
  try simp (disch:=first|exact dqb|fail) only [go_sem,↓reduceIte] at p2 p4 p5 p7 p22
  have hlt:((i:Int)<(n:Int))=True:=eq_true (by omega)
  have xx:=x2.trans xH
  have gcH:=xH.get gc
  have lf:=fun base=>run_liftC (base:=base) (t:=i) (hI.ext xx) (by omega) hw.2 hC
  obtain ⟨y,ey⟩:∃ y,l.getD (i % l.length) 0=y:=⟨_,rfl⟩
  rw [ey] at lf
  have ox:=oH.one
  obtain ⟨x',H',a1,a2,a3,a4,a5,a6⟩:=oH.append1X (P:=prog) (y:=y) (base:=base) (t:=25) rfl rfl Fc.el25 encI_sc (by omega) hH (by rw [wvC,lst_len];omega)
  have kp:KeepO encI 3 H H':=a6
  have g2:=kp.box gH
  have hsp:=@Nat.succ_ne_zero;repeat' (first|simp (disch:=first|exact dqb|fail) only [go_sem,↓reduceIte,hsp,p2,p4,p5,p7,p22,p23,hlt,gH,gcH,chB,lf,a1,g2]|refine WP_drw ?_|refine cnd_intro (fun hsp=>?_) fun hsp=>?_)
  refine ⟨agq,by omega,x',(a4 _ (by omega) xH).set (Nat.le_refl _),rfl,?_,by omega⟩
  have e:wvC l (i+1)=wvC l i++[y]:=by unfold wvC;rw [lst_succ,ey]
  rw [e]
  exact a2.setBox g2
 ·rintro fr H hA ⟨p23,x,xH,gH,oH,hH⟩
  have p2:=hA 2 rfl
  have p4:=hA 4 rfl
  have p5:=hA 5 rfl
  have p7:=hA 7 rfl
  have p22:=hA 22 rfl
  try simp (disch:=first|exact dqb|fail) only [go_sem,↓reduceIte] at p2 p4 p5 p7 p22
  have hlt:((n:Int)<(n:Int))=False:=eq_false (by omega)
  have gpH:=xH.get gp
  have ox:=oH.one
  have hsp:=@Nat.succ_ne_zero;repeat' (first|simp (disch:=first|exact dqb|fail) only [go_sem,↓reduceIte,hsp,p2,p4,p5,p7,p22,p23,hlt,gH,gpH]|refine WP_drw ?_|refine cnd_intro (fun hsp=>?_) fun hsp=>?_)
  exact ⟨((x2.trans xH)).set (by omega),x,rfl,(oH.setBox gpH).low (by omega)⟩
end Go.AM
