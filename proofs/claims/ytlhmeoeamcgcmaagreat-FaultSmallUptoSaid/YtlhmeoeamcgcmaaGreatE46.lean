/-
  Contracts: a loom with one sight more (See).
-/
import Derived.Test.YtlhmeoeamcgcmaaGreatE44
import Derived.Test.YtlhmeoeamcgcmaaGreatG5
set_option linter.unusedSimpArgs false
set_option linter.unusedVariables false
namespace Go.AM
open Go.Proofs.Tryz
attribute [-go_sem] put_ne put_same
attribute [local go_sem ↓] put_if
theorem splice_pre:∀ (vs c d pre:List AVal),c.length=vs.length→splice (pre++(c++d)) pre.length vs=pre++(vs++d)
 | [],c,d,pre,h=>by rw [List.eq_nil_of_length_eq_zero h];rfl
 | v :: vs,[],d,pre,h=>by simp at h
 | v :: vs,x :: c,d,pre,h=>by
  rw [splice,List.cons_append,List.set_append_right _ _ (Nat.le_refl _),Nat.sub_self,List.set_cons_zero]
  have:=splice_pre vs c d (pre++[v]) (by simpa using h)
  simpa using this
theorem repCells_add (z:List AVal):∀ n m,repCells z (n+m)=repCells z n++repCells z m
 | 0,m=>by simp [repCells]
 | n+1,m=>by rw [show n+1+m=(n+m)+1 by omega,repCells,repCells_add z n m,repCells,List.append_assoc]
theorem copy_fill {α:Type} {E:Enc α} {e t:TypeId} {base n id:Nat} {A:Heap} {x:AVal} {l:List α} {zs:List AVal} (hg:A[id]?=some ⟨.cells (repCells zs n) e true false,0⟩) (hR:Rows E A x l) (ht:elS prog t=some (e,E.z,zs)) (hz:zs.length=E.z) (hs:∀ y,(E.cells y).all AVal.scalar=true) (hn:n=l.length+1) (hb:base≤id) :
  copyA prog base A t (.slice (some ⟨id,0,0⟩) n n) x=some (.int .i64 (l.length:Int),A.set id ⟨.cells (flat E l++zs) e true false,0⟩):=by
 subst hn
 have hm:min l.length (l.length+1)=l.length:=by omega
 have hc:(repCells zs l.length).length=(flat E l).length:=by rw [repCells_length,flat_len,hz]
 have hr:repCells zs (l.length+1)=repCells zs l.length++zs:=by rw [repCells_add];simp [repCells]
 simp only [copyA,ht,hR.lenA,hm,hR.firstN,storeN,hg]
 rw [if_pos ⟨trivial,by rw [hr,List.length_append,hc];omega,flat_scalar hs _,.inl hb⟩]
 have:=splice_pre (flat E l) (repCells zs l.length) zs [] hc
 simp only [List.nil_append,List.length_nil] at this
 rw [hr,this]
theorem clone_own {h:Heap} {v:AVal} {l:List Int} (hI:Ints h v l):OwnE encI 3 h.length (h++cloneH v l) (cloneV v h.length l) l:=by
 unfold cloneH cloneV
 by_cases hn:nilB v=true
 ·obtain ⟨rfl,rfl⟩:=hI.nilB_nil hn
  rw [if_pos hn,if_pos hn]
  exact .inl Own.nil
 ·rw [if_neg hn,if_neg hn]
  cases l with
  | nil=>exact .inr ⟨rfl,rfl⟩
  | cons a l =>
   refine .inl (.inr ⟨h.length,0,rfl,?_,Nat.le_refl _,by simp⟩)
   rw [newH_cons,get_eq rfl,rowE,flat_encI]
theorem run_cloneE {base:Nat} {h:Heap} {v:AVal} {l:List Int} (hI:Ints h v l) (hs:Small l):∃ v' H,callL prog raw base (.fn 105 [] []) [v] h=some (v',H)∧Ext h H∧OwnE encI 3 h.length H v' l:=⟨_,_,run_clone hI hs,.app .refl,clone_own hI⟩
def moreL (L:Lom) (s:Sgt):Lom:=⟨L.R,L.T,L.ps,L.ss++[s]⟩
def seeM (L:Lom) (s:Sgt):Int:=if chkM L ≠ 0 then chkM L else if L.ss.length=10 then 9 else chkM (moreL L s)
set_option maxHeartbeats 2000000 in
theorem run_see {base:Nat} {h:Heap} {v:AVal} {L:Lom} {s:Sgt} (hb:base≤h.length) (hL:LomAt h v L) (hok:LomOk L) :
  Ret prog raw base (.fn 46 [] []) [v,.agg [.int .i64 s.rib,.int .i64 s.lo,.int .i64 s.hi,.bool s.bad]] h (fun w H=>Ext h H∧∃ R T pv sv,w=.tuple [lomV R T pv sv,.int .i64 (seeM L s)]∧(seeM L s=0→R=L.R∧T=L.T∧OwnQ h.length H pv L.ps∧Own encS 56 h.length H sv (L.ss++[s]))∧(seeM L s ≠ 0→R=0∧T=0∧pv=.slice none 0 0∧sv=.slice none 0 0)):=by
 obtain ⟨pv,sv,rfl,hP,hS⟩:=id hL
 have o1:=hP.one
 have o2:=hS.one
 obtain ⟨H0,eH0⟩:∃ H0,H0=h++[lmB L.R L.T pv sv]++[sgB' s]++[lmB 0 0 (.slice none 0 0) (.slice none 0 0)]:=⟨_,rfl⟩
 have xh0:Ext h H0:=by rw [eH0];exact .app (.app (.app .refl))
 have hl0:H0.length=h.length+3:=by rw [eH0];simp
 have g0:H0[h.length]?=some (lmB L.R L.T pv sv):=by rw [eH0];exact get_app (get_app (get_eq rfl))
 have gs0:H0[h.length+1]?=some (sgB' s):=by rw [eH0];exact get_app (get_eq (by simp))
 have gr0:H0[h.length+2]?=some (lmB 0 0 (.slice none 0 0) (.slice none 0 0)):=by rw [eH0];exact get_eq (by simp)
 have hc:=fun base=>run_check' (base:=base) (hL.ext xh0) hok
 have hlS0:lenOpA prog H0 23 sv=some (.int .i64 (L.ss.length:Int)):=(hS.ext xh0).len Fc.el23
 unfold sgB' at eH0 gs0
 by_cases c1:chkM L=0
 ·obtain ⟨k1,k2,k3,k4,k5,k6⟩:=chkM_ok c1
  rw [c1] at hc
  by_cases c2:L.ss.length=10
  ·have t2:((L.ss.length:Int)=10)=True:=eq_true (by omega)
   have r:seeM L s=9:=by unfold seeM;rw [if_neg (by simp [c1]),if_pos c2]
   rw [r]
   refine ret_raw func46 rfl (by kernel_rfl) ?_
   have hsp:=@Nat.succ_ne_zero;repeat' (first|simp (disch:=first|exact dq|fail) only [go_sem,↓reduceIte,hsp,← eH0,g0,gr0,hc,hlS0,t2,eq_self]|refine WP_drw ?_|refine cnd_intro (fun hsp=>?_) fun hsp=>?_)
   exact ⟨xh0.set (by omega),0,0,_,_,rfl,fun q=>by simp at q,fun _=>⟨rfl,rfl,rfl,rfl⟩⟩
  ·have t2:((L.ss.length:Int)=10)=False:=eq_false (by omega)
   have r:seeM L s=chkM (moreL L s):=by unfold seeM;rw [if_neg (by simp [c1]),if_neg c2]
   have hmk:=make_full (P:=prog) (h:=H0) (n:=L.ss.length+1) Fc.el23 (by omega) (by omega)
   rw [show ((L.ss.length+1:Nat):Int)=(L.ss.length:Int)+1 from rfl] at hmk
   obtain ⟨G1,eG1⟩:∃ G1,G1=H0++[⟨.cells (repCells [.int .i64 0,.int .i64 0,.int .i64 0,.bool false] (L.ss.length+1)) 56 true false,0⟩]++[lmB L.R L.T (.slice none 0 0) (.slice (some ⟨H0.length,0,0⟩) (L.ss.length+1) (L.ss.length+1))]:=⟨_,rfl⟩
   have xG1:Ext H0 G1:=by rw [eG1];exact .app (.app .refl)
   have gR1:G1[H0.length]?=some ⟨.cells (repCells [.int .i64 0,.int .i64 0,.int .i64 0,.bool false] (L.ss.length+1)) 56 true false,0⟩:=by rw [eG1];exact get_app (get_eq rfl)
   have gL1:G1[H0.length+1]?=some (lmB L.R L.T (.slice none 0 0) (.slice (some ⟨H0.length,0,0⟩) (L.ss.length+1) (L.ss.length+1))):=by rw [eG1];exact get_eq (by simp)
   have hcp:=copy_fill (base:=base) gR1 (hS.ext (xh0.trans xG1)) Fc.el23 rfl encS_sc rfl (by omega)
   have g01:=xG1.get g0
   obtain ⟨G2,eG2⟩:∃ G2,G2=G1.set H0.length ⟨.cells (flat encS L.ss++[.int .i64 0,.int .i64 0,.int .i64 0,.bool false]) 56 true false,0⟩:=⟨_,rfl⟩
   have xG2:Ext H0 G2:=by rw [eG2];exact xG1.set (Nat.le_refl _)
   have gL2:G2[H0.length+1]?=some (lmB L.R L.T (.slice none 0 0) (.slice (some ⟨H0.length,0,0⟩) (L.ss.length+1) (L.ss.length+1))):=by rw [eG2,List.getElem?_set_ne (by omega)];exact gL1
   have g02:=xG2.get g0
   have gs2:=xG2.get gs0
   have hl2:G2.length=H0.length+2:=by rw [eG2,eG1];simp
   have gR2:G2[H0.length]?=some ⟨.cells (flat encS L.ss++[.int .i64 0,.int .i64 0,.int .i64 0,.bool false]) 56 true false,0⟩:=by rw [eG2,List.getElem?_set_self (by rw [eG1];simp)]
   have hlS2:lenOpA prog G2 23 sv=some (.int .i64 (L.ss.length:Int)):=(hS.ext (xh0.trans xG2)).len Fc.el23
   obtain ⟨Gp,eGp⟩:∃ Gp,Gp=H0++[rowE encS 56 (L.ss++[s]) 0]:=⟨_,rfl⟩
   have hlp:Gp.length=H0.length+1:=by rw [eGp];simp
   have xGp:Ext H0 Gp:=by rw [eGp];exact .app .refl
   obtain ⟨sw,esw⟩:∃ sw,sw=AVal.slice (some ⟨H0.length,0,0⟩) (L.ss.length+1) (L.ss.length+1):=⟨_,rfl⟩
   have osw:One sw:=by rw [esw];exact ⟨rfl,rfl,rfl⟩
   have oSw:Own encS 56 h.length Gp sw (L.ss++[s]):=.inr ⟨H0.length,0,by rw [esw];simp,by rw [eGp];exact get_eq rfl,by omega,by simp⟩
   have set_mid:∀ {A:Heap} {x y z:ABlk},(A++[x]++[y]).set A.length z=A++[z]++[y]:=fun {A x y z}=>by
    rw [List.append_assoc,List.set_append_right _ _ (Nat.le_refl _),Nat.sub_self,List.append_assoc];rfl
   have hst:∀ {K:ABlk→Heap},stQ base H0.length G2[H0.length]? 0 (L.ss.length * 4) [.int .i64 s.rib,.int .i64 s.lo,.int .i64 s.hi,.bool s.bad] K=some (K (rowE encS 56 (L.ss++[s]) 0)):=fun {K}=>by
    have hz:(flat encS L.ss).length=L.ss.length * 4:=flat_len ..
    rw [gR2,stQ_own (by omega) (by simp [hz]) (by simp [AVal.scalar])]
    have:=splice_pre [.int .i64 s.rib,.int .i64 s.lo,.int .i64 s.hi,.bool s.bad] [.int .i64 0,.int .i64 0,.int .i64 0,.bool false] [] (flat encS L.ss) rfl
    rw [List.append_nil,hz] at this
    rw [this,rowE,flat_app]
    rfl
   have eG3:G2.set H0.length (rowE encS 56 (L.ss++[s]) 0)=Gp++[lmB L.R L.T (.slice none 0 0) sw]:=by
    rw [eG2,List.set_set,eG1,set_mid,eGp,esw]
   have xGp0:=xh0.trans xGp
   have hlP3:∀ {T:Heap},lenOpA prog (Gp++T) 22 pv=some (.int .i64 (L.ps.length:Int)):=fun {T}=>(hP.ext (xGp0.trans (.app .refl))).len
   have g03:∀ {T:Heap},(Gp++T)[h.length]?=some (lmB L.R L.T pv sv):=fun {T}=>get_app (xGp.get g0)
   refine ret_raw func46 rfl (by kernel_rfl) ?_
   have hsp:=@Nat.succ_ne_zero;repeat' (first|simp (disch:=first|exact dq|fail) only [go_sem,↓reduceIte,hsp,← eH0,g0,gr0,hc,hlS0,t2,eq_self,hmk,← eG1,gL1,g01,hcp,← eG2,gL2,g02,gs2,hlS2,hst,eG3,g03,hlP3]|refine WP_drw ?_|refine cnd_intro (fun hsp=>?_) fun hsp=>?_)
   refine WP_count [(9,9),(47,61)] 0 L.ps.length (Nat.zero_le _) (fun _ n fr h'=>fr 47=.int .i64 (n:Int)∧Ext Gp h'∧∃ qv,h'[H0.length+1]?=some (lmB L.R L.T qv sw)∧OwnQ ((H0.length+1)+1) h' qv (L.ps.take n)) ?_ ?_ ?_
   ·exact ⟨by (simp (disch:=first|exact dq|fail) only [go_sem,↓reduceIte,Int.natCast_zero];first|done|rfl),.app .refl,.slice none 0 0,get_eq hlp.symm,by rw [List.take_zero];exact OwnQ.nil⟩
   ·rintro n fr H hn0 hn hA ⟨r47,xH,qv,gN,oQ⟩
    have p4:=hA 4 rfl
    have p5:=hA 5 rfl
    have p7:=hA 7 rfl
    have p45:=hA 45 rfl
    have p46:=hA 46 rfl
    try simp (disch:=first|exact dq|fail) only [go_sem,↓reduceIte] at p4 p5 p7 p45 p46
    have hlt:((n:Int)<(L.ps.length:Int))=True:=eq_true (by omega)
    have xh:=xGp0.trans xH
    have hNl:=lt_of_get gN
    have hq1:=oQ.one
    obtain ⟨q,eq⟩:∃ q,q=L.ps.getD n prt0:=⟨_,rfl⟩
    have hq:L.ps[n]?=some q:=by rw [eq];exact getD_some hn
    obtain ⟨a1,r1,_,ad1,ld1,i1,_,_⟩:=(hP.ext xh).at hq
    have d10:=ld1 H .refl
    have d1:∀ {T:Heap},loadP prog (H++T) 81 a1=some (.agg [r1,.int .i64 q.each,.int .i64 q.ph,.bool q.wv]):=fun {T}=>ld1 _ (.app .refl)
    have q1:=i1.one
    obtain ⟨Ha,eHa⟩:∃ Ha,Ha=H++[prB r1 q.each q.ph q.wv]:=⟨_,rfl⟩
    have xHa:Ext H Ha:=by rw [eHa];exact .app .refl
    have hla:Ha.length=H.length+1:=by rw [eHa];simp
    obtain ⟨r2,H2,e2,x2',oR⟩:=run_cloneE (base:=base) (i1.ext xHa) (hok.1 q (List.mem_of_getElem? hq))
    have gPa:Ha[H.length]?=some (prB r1 q.each q.ph q.wv):=by rw [eHa];exact get_eq rfl
    have gP2:=x2'.get gPa
    have q2:=oR.one
    have hl2':=x2'.len
    have xH2:=xHa.trans x2'
    have gN2:=xH2.get gN
    have oQ2:=oQ.ext xH2
    obtain ⟨H3,eH3⟩:∃ H3,H3=H2.set H.length (prB r2 q.each q.ph q.wv):=⟨_,rfl⟩
    have hl3:H3.length=H2.length:=by rw [eH3,List.length_set]
    have oQ3:OwnQ ((H0.length+1)+1) H3 qv (L.ps.take n):=by rw [eH3];exact oQ2.setBox gP2
    have oR3:OwnE encI 3 ((H0.length+1)+1) H3 r2 q.rib:=by rw [eH3];exact (oR.low (by omega)).setBox gP2
    have gN3:H3[H0.length+1]?=some (lmB L.R L.T qv sw):=by rw [eH3,List.getElem?_set_ne (by omega)];exact gN2
    have gP3:H3[H.length]?=some (prB r2 q.each q.ph q.wv):=by rw [eH3,List.getElem?_set_self (by omega)]
    have xH13:Ext Gp H3:=by rw [eH3];exact (xH.trans xH2).set (by omega)
    have hn2:=norm_one q2
    have bsW:∀ {lit:Bool} {A:Heap},bsA prog lit A 22 1 [(0,.agg [r2,.int .i64 q.each,.int .i64 q.ph,.bool q.wv])]=some (.slice (some ⟨A.length,0,0⟩) 1 1,A++[rowE encP 81 [⟨r2,q.each,q.ph,q.wv⟩] 0]):=fun {lit A}=>by
     simp [bsA,rowOf,Fc.el22,fillA,repCells,AVal.isN,AVal.cells,splice,rowE,flat,encP,hn2]
    have hbG:base≤H0.length+1:=by have:=xGp0.len;omega
    obtain ⟨v',h',a1',a2,a3,a4,a5,a6⟩:=(oQ3.ext (.app (t:=[rowE encP 81 [⟨r2,q.each,q.ph,q.wv⟩] 0]) .refl)).snoc (base:=base) (p:=q) (oR3.ext (.app .refl)) (by omega) (by simp;omega) (by rw [List.length_take];omega) (by simp)
    rw [List.length_append,List.length_cons,List.length_nil,Nat.zero_add,Nat.add_sub_cancel,hl3] at a1'
    have gL3:=a6.box (i:=(H0.length+1)) (get_app gN3)
    simp only [List.length_append,List.length_cons,List.length_nil] at a3
    unfold prB at eHa gPa gP2 eH3 gP3
    have hsp:=@Nat.succ_ne_zero;repeat' (first|simp (disch:=first|exact dq|fail) only [go_sem,↓reduceIte,hsp,r47,p4,p5,p7,p45,p46,hlt,ad1,d1,d10,← eHa,gPa,e2,gP2,← eH3,gN3,gP3,bsW,a1',gL3,hl3]|refine WP_drw ?_|refine cnd_intro (fun hsp=>?_) fun hsp=>?_)
    refine ⟨agq,by omega,(a4 _ (by omega) (xH13.trans (.app .refl))).set (by omega),v',rfl,?_⟩
    have:=a2.setBox (k:=lmB L.R L.T v' sw) gL3
    rwa [show L.ps.take n++[q]=L.ps.take (n+1) by rw [List.take_add_one,hq];rfl] at this
   ·rintro fr H hA ⟨r47,xH,qv,gN,oQ⟩
    have p4:=hA 4 rfl
    have p5:=hA 5 rfl
    have p7:=hA 7 rfl
    have p45:=hA 45 rfl
    have p46:=hA 46 rfl
    try simp (disch:=first|exact dq|fail) only [go_sem,↓reduceIte] at p4 p5 p7 p45 p46
    have hlt:((L.ps.length:Int)<(L.ps.length:Int))=False:=eq_false (by omega)
    have hq1:=oQ.one
    have xh:=xGp0.trans xH
    have g3:=(xGp.trans xH).get gr0
    have hHl:=xh.len
    have hHl2:=xH.len
    have hb3:h.length+2<H.length:=by omega
    rw [List.take_length] at oQ
    have oSH:=oSw.ext xH
    have hLm:LomAt H (.agg [.int .i64 L.R,.int .i64 L.T,qv,sw]) (moreL L s):=⟨qv,sw,rfl,oQ.parts (by show L.ps.length<_;omega) hok.1,oSH.rows (by simp;omega)⟩
    have hok2:LomOk (moreL L s):=⟨hok.1,hok.2.1,by simp [moreL];omega,hok.2.2.2.1,hok.2.2.2.2⟩
    have hc2:=fun base=>run_check' (base:=base) hLm hok2
    rw [← r] at hc2
    by_cases c3:seeM L s=0
    ·rw [c3] at hc2
     rw [c3]
     have hsp:=@Nat.succ_ne_zero;repeat' (first|simp (disch:=first|exact dq|fail) only [go_sem,↓reduceIte,hsp,r47,p4,p5,p7,p45,p46,hlt,gN,g3,hc2,eq_self]|refine WP_drw ?_|refine cnd_intro (fun hsp=>?_) fun hsp=>?_)
     exact ⟨xh.set (by omega),L.R,L.T,qv,sw,rfl,fun _=>⟨rfl,rfl,(oQ.low (by omega)).setBox g3,oSH.setBox g3⟩,fun q=>q.elim⟩
    ·have t3:(seeM L s=0)=False:=eq_false c3
     have hsp:=@Nat.succ_ne_zero;repeat' (first|simp (disch:=first|exact dq|fail) only [go_sem,↓reduceIte,hsp,r47,p4,p5,p7,p45,p46,hlt,gN,g3,hc2,t3]|refine WP_drw ?_|refine cnd_intro (fun hsp=>?_) fun hsp=>?_)
     exact ⟨xh.set (by omega),0,0,_,_,rfl,fun q=>q.elim,fun _=>⟨rfl,rfl,rfl,rfl⟩⟩
 ·have t1:(chkM L=0)=False:=eq_false c1
  have r:seeM L s=chkM L:=by unfold seeM;rw [if_pos c1]
  rw [r]
  refine ret_raw func46 rfl (by kernel_rfl) ?_
  have hsp:=@Nat.succ_ne_zero;repeat' (first|simp (disch:=first|exact dq|fail) only [go_sem,↓reduceIte,hsp,← eH0,g0,gr0,hc,t1]|refine WP_drw ?_|refine cnd_intro (fun hsp=>?_) fun hsp=>?_)
  exact ⟨xh0.set (by omega),0,0,_,_,rfl,fun q=>absurd q (by simp),fun _=>⟨rfl,rfl,rfl,rfl⟩⟩
end Go.AM
namespace Go.AM
open Go.Proofs.Tryz
theorem prtOf_more {L:Lom} {s:Sgt} {b:Brk}:prtOf (moreL L s) b=prtOf L b:=rfl
theorem tch_more {L:Lom} {s:Sgt} {b:Brk} {x:Sgt}:tch (moreL L s) b x=tch L b x:=rfl
theorem bdT_more {L:Lom} {s:Sgt} {t:List Brk} {x:Sgt}:bdT (moreL L s) t x=bdT L t x:=rfl
theorem truOk_more {L:Lom} {s:Sgt} {t:List Brk}:truOk (moreL L s) t=truOk L t:=rfl
theorem wvT_more {L:Lom} {s:Sgt} {t:List Brk} {x:Sgt}:wvT (moreL L s) t x=wvT L t x:=rfl
def notS (s:Sgt):Sgt:=⟨s.rib,s.lo,s.hi,!s.bad⟩
end Go.AM
