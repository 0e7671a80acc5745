/-
  Contracts: Take, Made, Best, Fewest, Used.
-/
import Derived.Test.YtikgghhceolaeaaGreatU16
set_option linter.unusedSimpArgs false
set_option linter.unusedVariables false
namespace Go.AM
open Go.Proofs.Tryz
attribute [-go_sem] put_ne put_same
attribute [local go_sem ↓] put_if
def takE (R:Rib) (c:Ct):Int × Int × Int:=if chkR R ≠ 0 then (0,0,chkR R) else if ¬ ((0≤c.w∧c.w≤(R.W.length:Int)-1)∧(0≤c.f∧c.f≤R.L-1)) then (0,0,1) else match takC R c with
 | none=>(0,0,6)
 | some e=>(e.1,e.2,0)
set_option maxRecDepth 100000 in
set_option maxHeartbeats 4000000 in
theorem run_Take {base:Nat} {h:Heap} {v:AVal} {R:Rib} {c:Ct} (hA:RibAt h v R) (hsm:R.F.length≤1048576) :
  callL prog raw base (.fn 43 [] []) [v,.agg [.int .i64 c.w,.int .i64 c.f,.bool c.j]] h=some (.tuple [.int .i64 (takE R c).1,.int .i64 (takE R c).2.1,.int .i64 (takE R c).2.2],h):=by
 have hAe:=fun H (e:Ext h H)=>hA.ext e
 obtain ⟨fv,wv,rfl,hF,hW⟩:=hA
 have o1:=hF.one
 have o2:=hW.one
 obtain ⟨G0,eG0⟩:∃ G0,G0=h++[ribB R.L fv wv]++[cutB c]:=⟨_,rfl⟩
 have x0:Ext h G0:=by rw [eG0];exact .app (.app .refl)
 have g0:G0[h.length]?=some (ribB R.L fv wv):=by rw [eG0];exact get_app (get_eq rfl)
 have g1:G0[h.length+1]?=some (cutB c):=by rw [eG0];exact get_eq (by simp)
 have l0:G0.length=h.length+2:=by rw [eG0];simp
 obtain ⟨w1,H1,e1,x1,r1,r2⟩:=run_opened (base:=h.length) (h:=G0) (by omega) (hAe G0 x0) hsm
 have l1:=x1.len
 have xx:=x0.trans x1
 have p0:=x1.get g0
 have p1:=x1.get g1
 unfold ribB at eG0 g0 p0
 unfold cutB at eG0 g1 p1
 refine callL_run func43 rfl rfl ?_
 by_cases c0:chkR R=0
 ·obtain ⟨id,rfl,hid,hD⟩:=r2 c0
  have hR:=chkR_iff.1 c0
  have hL:=hR.L
  have hnW:=hR.nW
  have iW:=hW.ext xx
  have hw:=fun base=>run_want (base:=base) (L:=R.L) (x:=c.w) iW o1
  have hu:=fun base=>run_unit (base:=base) (h:=H1) (x:=c.f) (show -100000≤R.L∧R.L≤100000 by omega) o1 o2
  by_cases c1:0≤c.w∧c.w≤(R.W.length:Int)-1
  ·rw [decide_eq_true c1] at hw
   by_cases c2:0≤c.f∧c.f≤R.L-1
   ·rw [decide_eq_true c2] at hu
    obtain ⟨k,ek⟩:=Int.eq_ofNat_of_zero_le c1.1
    obtain ⟨x,ex⟩:=Int.eq_ofNat_of_zero_le c2.1
    have hwk:R.W[k]?=some (R.W[k]'(by omega)):=List.getElem?_eq_getElem (by omega)
    generalize R.W[k]'(by omega)=w at hwk
    have ht:=fun base=>run_take (base:=base) (j:=c.j) hD hR hwk (show x<R.L.toNat by omega)
    have etc:takC R c=takL R w x c.j:=by unfold takC;rw [ek,Int.toNat_natCast,hwk];simp only;rw [ex,Int.toNat_natCast]
    have re:takE R c=match takL R w x c.j with|none=>(0,0,6)|some e=>(e.1,e.2,0):=by
     unfold takE;rw [if_neg (by simp [c0]),if_neg (fun q=>q ⟨c1,c2⟩),etc]
    rw [re]
    rw [← ek,← ex] at ht
    cases hto:takL R w x c.j with
    | none =>
     rw [hto] at ht
     unfold takV at ht
     have hsp:=@Nat.succ_ne_zero;repeat' (first|simp (disch:=first|exact dqb|fail) only [go_sem,↓reduceIte,hsp,eG0.symm,g0,e1,p0,p1,eq_self,hw,hu,ht]|refine WP_drw ?_|refine cnd_intro (fun hsp=>?_) fun hsp=>?_)
     exact fin_pl rfl rfl (.app xx)
    | some e =>
     rw [hto] at ht
     unfold takV at ht
     have hsp:=@Nat.succ_ne_zero;repeat' (first|simp (disch:=first|exact dqb|fail) only [go_sem,↓reduceIte,hsp,eG0.symm,g0,e1,p0,p1,eq_self,hw,hu,ht]|refine WP_drw ?_|refine cnd_intro (fun hsp=>?_) fun hsp=>?_)
     exact fin_pl rfl rfl (.app xx)
   ·rw [decide_eq_false c2] at hu
    have re:takE R c=(0,0,1):=by unfold takE;rw [if_neg (by simp [c0]),if_pos (fun q=>c2 q.2)]
    rw [re]
    have hsp:=@Nat.succ_ne_zero;repeat' (first|simp (disch:=first|exact dqb|fail) only [go_sem,↓reduceIte,hsp,eG0.symm,g0,e1,p0,p1,eq_self,hw,hu]|refine WP_drw ?_|refine cnd_intro (fun hsp=>?_) fun hsp=>?_)
    exact fin_pl rfl rfl xx
  ·rw [decide_eq_false c1] at hw
   have re:takE R c=(0,0,1):=by unfold takE;rw [if_neg (by simp [c0]),if_pos (fun q=>c1 q.1)]
   rw [re]
   have hsp:=@Nat.succ_ne_zero;repeat' (first|simp (disch:=first|exact dqb|fail) only [go_sem,↓reduceIte,hsp,eG0.symm,g0,e1,p0,p1,eq_self,hw]|refine WP_drw ?_|refine cnd_intro (fun hsp=>?_) fun hsp=>?_)
   exact fin_pl rfl rfl xx
 ·have t0:(chkR R=0)=False:=eq_false c0
  have r:=r1 c0
  subst r
  have re:takE R c=(0,0,chkR R):=by unfold takE;rw [if_pos c0]
  rw [re]
  have hsp:=@Nat.succ_ne_zero;repeat' (first|simp (disch:=first|exact dqb|fail) only [go_sem,↓reduceIte,hsp,eG0.symm,g0,e1,t0]|refine WP_drw ?_|refine cnd_intro (fun hsp=>?_) fun hsp=>?_)
  exact fin_pl rfl rfl xx
def madE (R:Rib):List Int:=if chkR R ≠ 0 then [] else lst (fun y=>valD R y) (R.L.toNat+1)
theorem mdS_take {R:Rib} (hR:RibOk R):(mdS R 0).take (R.L.toNat+1)=lst (fun y=>valD R y) (R.L.toNat+1):=by
 have hL:=hR.L
 refine List.ext_getElem? fun i=>?_
 rw [List.getElem?_take]
 split
 ·rename_i hi
  unfold mdS lst
  rw [List.getElem?_map,List.getElem?_map,List.getElem?_range (by omega),List.getElem?_range hi]
  simp
 ·rename_i hi
  rw [List.getElem?_eq_none (by rw [lst_len];omega)]
theorem val_small {R:Rib} (hR:RibOk R) {n:Nat} (hn:n≤1000):Small (lst (fun y=>valD R y) n):=by
 refine ⟨by rw [lst_len];omega,fun y hy=>?_⟩
 unfold lst at hy
 obtain ⟨i,_,rfl⟩:=List.mem_map.1 hy
 have:=valD_bd hR (x:=i)
 omega
set_option maxRecDepth 100000 in
set_option maxHeartbeats 4000000 in
theorem run_Made {base:Nat} {h:Heap} {v:AVal} {R:Rib} (hb:base≤h.length) (hA:RibAt h v R) (hsm:R.F.length≤1048576) :
  Ret prog raw base (.fn 21 [] []) [v] h (fun w H=>Ext h H∧∃ u,w=.tuple [u,.int .i64 (chkR R)]∧OwnE encI 3 h.length H u (madE R)):=by
 have hAe:=fun H (e:Ext h H)=>hA.ext e
 obtain ⟨fv,wv,rfl,hF,hW⟩:=hA
 have o1:=hF.one
 have o2:=hW.one
 obtain ⟨G0,eG0⟩:∃ G0,G0=h++[ribB R.L fv wv]:=⟨_,rfl⟩
 have x0:Ext h G0:=by rw [eG0];exact .app .refl
 have g0:G0[h.length]?=some (ribB R.L fv wv):=by rw [eG0];exact get_eq rfl
 have l0:G0.length=h.length+1:=by rw [eG0];simp
 obtain ⟨w1,H1,e1,x1,r1,r2⟩:=run_opened (base:=base) (h:=G0) (by omega) (hAe G0 x0) hsm
 have l1:=x1.len
 have xx:=x0.trans x1
 have p0:=x1.get g0
 unfold ribB at eG0 g0 p0
 by_cases c0:chkR R=0
 ·obtain ⟨id,rfl,hid,hD⟩:=r2 c0
  have hR:=chkR_iff.1 c0
  have hL:=hR.L
  have hm:=fun base=>run_made (base:=base) hD hR
  obtain ⟨H2,eH2⟩:∃ H2,H2=H1++[valBk (mdS R 0)]:=⟨_,rfl⟩
  have x2:Ext H1 H2:=by rw [eH2];exact .app .refl
  have q0:=x2.get p0
  have q1:H2[H1.length]?=some (valBk (mdS R 0)):=by rw [eH2];exact get_eq rfl
  have stV:=stV61 (base:=base) (id:=H1.length) (H:=H1++[valBk zer61]) (l:=mdS R 0) (m:=zer61) (get_eq rfl) mdS_len rfl
  rw [set_eq rfl,← eH2] at stV
  obtain ⟨n,en⟩:∃ n,n=R.L.toNat+1:=⟨_,rfl⟩
  have e2:R.L+1=(n:Int):=by omega
  have sl:sliceA prog 106 (.ptr (some ⟨H1.length,0,0⟩)) none (some (.int .i64 (n:Int))) none=some (.slice (some ⟨H1.length,0,0⟩) n 61):=by
   simp only [sliceA,Fc.ar106,optB,boundI (show (0:Int)≤(n:Int) by omega) (show (n:Int)≤((61:Nat):Int) by omega)]
   simp [ARef.add]
  have hI:Ints H2 (.slice (some ⟨H1.length,0,0⟩) n 61) (lst (fun y=>valD R y) n):=by
   have hs:=val_small hR (n:=n) (by omega)
   refine ⟨⟨by rw [lst_len];omega,hs.2⟩,.inr (.inr ⟨⟨H1.length,0,0⟩,61,ints (mdS R 0),106,false,false,by rw [lst_len],q1,?_,by rw [ints_length,lst_len,mdS_len];simp only;omega,by rw [lst_len];omega⟩)⟩
   rw [List.drop_zero,lst_len,en,← mdS_take hR]
   simp [ints,List.map_take]
  obtain ⟨u,H3,e3,x3,oU⟩:=run_cloneE (base:=base) hI (val_small hR (by omega))
  have re:madE R=lst (fun y=>valD R y) n:=by unfold madE;rw [if_neg (by simp [c0]),en]
  rw [re,c0]
  have l2:=x2.len
  unfold valBk zer61 at stV
  refine ret_raw func21 rfl (by kernel_rfl) ?_
  have hsp:=@Nat.succ_ne_zero;repeat' (first|simp (disch:=first|exact dqb|fail) only [go_sem,↓reduceIte,hsp,← eG0,g0,e1,eq_self,hm,stV,q0,e2,sl,e3]|refine WP_drw ?_|refine cnd_intro (fun hsp=>?_) fun hsp=>?_)
  exact ⟨(xx.trans x2).trans x3,u,rfl,oU.low (by omega)⟩
 ·have t0:(chkR R=0)=False:=eq_false c0
  have r:=r1 c0
  subst r
  have re:madE R=[]:=by unfold madE;rw [if_pos c0]
  rw [re]
  refine ret_raw func21 rfl (by kernel_rfl) ?_
  have hsp:=@Nat.succ_ne_zero;repeat' (first|simp (disch:=first|exact dqb|fail) only [go_sem,↓reduceIte,hsp,← eG0,g0,e1,t0]|refine WP_drw ?_|refine cnd_intro (fun hsp=>?_) fun hsp=>?_)
  exact ⟨xx,_,rfl,.inl Own.nil⟩
end Go.AM
namespace Go.AM
open Go.Proofs.Tryz
attribute [-go_sem] put_ne put_same
attribute [local go_sem ↓] put_if
def bstE (b:Bool) (R:Rib):List Ct:=if chkR R ≠ 0 then [] else pthL b R R.L.toNat 0
def allE (R:Rib):Int:=if chkR R ≠ 0 then 0 else valD R 0
def usdE (R:Rib):List Int:=if chkR R ≠ 0 then [] else usdL R
set_option maxRecDepth 100000 in
set_option maxHeartbeats 4000000 in
theorem run_Best {base:Nat} {h:Heap} {v:AVal} {R:Rib} (hb:base≤h.length) (hA:RibAt h v R) (hsm:R.F.length≤1048576) :
  Ret prog raw base (.fn 11 [] []) [v] h (fun w H=>Ext h H∧∃ u,w=.tuple [u,.int .i64 (allE R),.int .i64 (chkR R)]∧Own encC 57 h.length H u (bstE false R)):=by
 have hAe:=fun H (e:Ext h H)=>hA.ext e
 obtain ⟨fv,wv,rfl,hF,hW⟩:=hA
 have o1:=hF.one
 have o2:=hW.one
 obtain ⟨G0,eG0⟩:∃ G0,G0=h++[ribB R.L fv wv]:=⟨_,rfl⟩
 have x0:Ext h G0:=by rw [eG0];exact .app .refl
 have g0:G0[h.length]?=some (ribB R.L fv wv):=by rw [eG0];exact get_eq rfl
 have l0:G0.length=h.length+1:=by rw [eG0];simp
 obtain ⟨w1,H1,e1,x1,r1,r2⟩:=run_opened (base:=base) (h:=G0) (by omega) (hAe G0 x0) hsm
 have l1:=x1.len
 have xx:=x0.trans x1
 have p0:=x1.get g0
 unfold ribB at eG0 g0 p0
 by_cases c0:chkR R=0
 ·obtain ⟨id,rfl,hid,hD⟩:=r2 c0
  have hR:=chkR_iff.1 c0
  have hL:=hR.L
  obtain ⟨u,H2,e2,x2,oU⟩:=run_follow (base:=base) (b:=false) (by omega) hD hR
  have hm:=fun base=>run_made (base:=base) (hD.ext x2) hR
  have ix:indexA prog 106 (.agg (ints (mdS R 0))) (.int .i64 0)=some (.int .i64 (valD R 0)):=by
   simp only [indexA,Fc.ar106]
   rw [if_pos (by omega)]
   simp only [partQ,Bool.false_eq_true,if_false]
   show (ints (mdS R 0))[0]?=_
   rw [ints_get (by rw [mdS_len];omega),mdS_at (by omega) (Nat.zero_le _)]
  have re:bstE false R=pthL false R R.L.toNat 0:=by unfold bstE;rw [if_neg (by simp [c0])]
  have re2:allE R=valD R 0:=by unfold allE;rw [if_neg (by simp [c0])]
  rw [re,re2,c0]
  have ou:=oU.one
  have ethv:thV false=.fn 39 [] []:=rfl
  rw [ethv] at e2
  refine ret_raw func11 rfl (by kernel_rfl) ?_
  have hsp:=@Nat.succ_ne_zero;repeat' (first|simp (disch:=first|exact dqb|fail) only [go_sem,↓reduceIte,hsp,← eG0,g0,e1,eq_self,e2,hm,ix]|refine WP_drw ?_|refine cnd_intro (fun hsp=>?_) fun hsp=>?_)
  exact ⟨xx.trans x2,u,rfl,oU.low (by omega)⟩
 ·have t0:(chkR R=0)=False:=eq_false c0
  have r:=r1 c0
  subst r
  have re:bstE false R=[]:=by unfold bstE;rw [if_pos c0]
  have re2:allE R=0:=by unfold allE;rw [if_pos c0]
  rw [re,re2]
  refine ret_raw func11 rfl (by kernel_rfl) ?_
  have hsp:=@Nat.succ_ne_zero;repeat' (first|simp (disch:=first|exact dqb|fail) only [go_sem,↓reduceIte,hsp,← eG0,g0,e1,t0]|refine WP_drw ?_|refine cnd_intro (fun hsp=>?_) fun hsp=>?_)
  exact ⟨xx,_,rfl,Own.nil⟩
set_option maxRecDepth 100000 in
set_option maxHeartbeats 4000000 in
theorem run_Used {base:Nat} {h:Heap} {v:AVal} {R:Rib} (hb:base≤h.length) (hA:RibAt h v R) (hsm:R.F.length≤1048576) :
  Ret prog raw base (.fn 45 [] []) [v] h (fun w H=>Ext h H∧∃ u,w=.tuple [u,.int .i64 (chkR R)]∧Own encI 3 h.length H u (usdE R)):=by
 have hAe:=fun H (e:Ext h H)=>hA.ext e
 obtain ⟨fv,wv,rfl,hF,hW⟩:=hA
 have o1:=hF.one
 have o2:=hW.one
 obtain ⟨G0,eG0⟩:∃ G0,G0=h++[ribB R.L fv wv]:=⟨_,rfl⟩
 have x0:Ext h G0:=by rw [eG0];exact .app .refl
 have g0:G0[h.length]?=some (ribB R.L fv wv):=by rw [eG0];exact get_eq rfl
 have l0:G0.length=h.length+1:=by rw [eG0];simp
 obtain ⟨w1,H1,e1,x1,r1,r2⟩:=run_opened (base:=base) (h:=G0) (by omega) (hAe G0 x0) hsm
 have l1:=x1.len
 have xx:=x0.trans x1
 have p0:=x1.get g0
 unfold ribB at eG0 g0 p0
 by_cases c0:chkR R=0
 ·obtain ⟨id,rfl,hid,hD⟩:=r2 c0
  have hR:=chkR_iff.1 c0
  have hL:=hR.L
  obtain ⟨u,H2,e2,x2,oU⟩:=run_used (base:=base) (by omega) hD hR
  have re:usdE R=usdL R:=by unfold usdE;rw [if_neg (by simp [c0])]
  rw [re,c0]
  have ou:=oU.one
  refine ret_raw func45 rfl (by kernel_rfl) ?_
  have hsp:=@Nat.succ_ne_zero;repeat' (first|simp (disch:=first|exact dqb|fail) only [go_sem,↓reduceIte,hsp,← eG0,g0,e1,eq_self,e2]|refine WP_drw ?_|refine cnd_intro (fun hsp=>?_) fun hsp=>?_)
  exact ⟨xx.trans x2,u,rfl,oU.low (by omega)⟩
 ·have t0:(chkR R=0)=False:=eq_false c0
  have r:=r1 c0
  subst r
  have re:usdE R=[]:=by unfold usdE;rw [if_pos c0]
  rw [re]
  refine ret_raw func45 rfl (by kernel_rfl) ?_
  have hsp:=@Nat.succ_ne_zero;repeat' (first|simp (disch:=first|exact dqb|fail) only [go_sem,↓reduceIte,hsp,← eG0,g0,e1,t0]|refine WP_drw ?_|refine cnd_intro (fun hsp=>?_) fun hsp=>?_)
  exact ⟨xx,_,rfl,Own.nil⟩
def ctsE (R:Rib) (x:Int):List Ct × Int:=if chkR R ≠ 0 then ([],chkR R) else if ¬ (0≤x∧x≤R.L-1) then ([],1) else ((cutL R x.toNat).map (·.1),0)
end Go.AM
namespace Go.AM
open Go.Proofs.Tryz
attribute [-go_sem] put_ne put_same
attribute [local go_sem ↓] put_if
def plnE (R:Rib) (p:List Ct):Int × Int:=if chkR R ≠ 0 then (0,chkR R) else plnL R p 0 0
theorem ct_ad {h:Heap} {pv:AVal} {P:List Ct} {i:Nat} (hR:Rows encC h pv P) (hi:i<P.length):indexAddrA prog 51 pv (.int .i64 (i:Int))=some (elAdr pv encC.z i 0):=by
 have:=hR.addr (P:=prog) (i:=(i:Int)) Fc.el51 Fc.ar51 (by omega) (by omega)
 rwa [Int.toNat_natCast] at this
theorem ct_ld {h:Heap} {pv:AVal} {P:List Ct} {i:Nat} {c:Ct} (hR:Rows encC h pv P) (hx:P[i]?=some c):loadP prog h 57 (elAdr pv encC.z i 0)=some (.agg [.int .i64 c.w,.int .i64 c.f,.bool c.j]):=hR.load (P:=prog) Fc.ty57 hx
theorem plnL_pos {R:Rib} (hR:RibOk R):∀ (p:List Ct) (a s:Int),(plnL R p a s).2=0 ∨ (plnL R p a s).1=0
 | [],_,_=>.inl rfl
 | c :: p,a,s=>by
  unfold plnL
  split
  ·exact .inr rfl
  ·split
   ·exact .inr rfl
   ·split
    ·exact .inr rfl
    ·exact plnL_pos hR p _ _
set_option maxRecDepth 100000 in
set_option maxHeartbeats 4000000 in
theorem run_planned {base:Nat} {h:Heap} {v pv:AVal} {R:Rib} {p:List Ct} (hb:base≤h.length) (hA:RibAt h v R) (hsm:R.F.length≤1048576) (hP:Rows encC h pv p) :
  Ret prog raw base (.fn 115 [] []) [v,pv] h (fun w H=>Ext h H∧∃ a,w=.tuple [a,.int .i64 (plnE R p).1,.int .i64 (plnE R p).2]∧One a∧((plnE R p).2=0→∃ id,a=.ptr (some ⟨id,0,0⟩)∧h.length≤id∧DskAt H id R)):=by
 have hAe:=fun H (e:Ext h H)=>hA.ext e
 obtain ⟨fv,wv,rfl,hF,hW⟩:=hA
 have o1:=hF.one
 have o2:=hW.one
 have op:=hP.one
 obtain ⟨G0,eG0⟩:∃ G0,G0=h++[ribB R.L fv wv]:=⟨_,rfl⟩
 have x0:Ext h G0:=by rw [eG0];exact .app .refl
 have g0:G0[h.length]?=some (ribB R.L fv wv):=by rw [eG0];exact get_eq rfl
 have l0:G0.length=h.length+1:=by rw [eG0];simp
 obtain ⟨w1,H1,e1,x1,r1,r2⟩:=run_opened (base:=base) (h:=G0) (by omega) (hAe G0 x0) hsm
 have l1:=x1.len
 have xx:=x0.trans x1
 have p0:=x1.get g0
 unfold ribB at eG0 g0 p0
 by_cases c0:chkR R=0
 ·obtain ⟨id,rfl,hid,hD⟩:=r2 c0
  have hR:=chkR_iff.1 c0
  have hL:=hR.L
  have hnW:=hR.nW
  have hpl:=hP.1
  have hn:=(hP.ext xx).len (P:=prog) Fc.el51
  have re:plnE R p=plnL R p 0 0:=by unfold plnE;rw [if_neg (by simp [c0])]
  obtain ⟨Z,eZ⟩:∃ Z,Z=plnL R p 0 0:=⟨_,rfl⟩
  rw [re,← eZ]
  refine ret_raw func115 rfl (by kernel_rfl) ?_
  have hsp:=@Nat.succ_ne_zero;repeat' (first|simp (disch:=first|exact dqb|fail) only [go_sem,↓reduceIte,hsp,← eG0,g0,e1,eq_self,hn]|refine WP_drw ?_|refine cnd_intro (fun hsp=>?_) fun hsp=>?_)
  refine WP_count [(4,6),(9,14),(25,61)] 0 p.length (Nat.zero_le _) (fun _ i fr H=>fr 25=.int .i64 (i:Int)∧∃ a s:Int,fr 9=.int .i64 a∧fr 10=.int .i64 s∧Ext H1 H∧plnL R (p.drop i) a s=Z∧(0≤a∧a≤R.L)∧(0≤s∧s≤100 * a)) ?_ ?_ ?_
  ·exact ⟨by (simp (disch:=first|exact dqb|fail) only [go_sem,↓reduceIte,Int.natCast_zero];first|done|rfl),0,0,by simp (disch:=first|exact dqb|fail) only [go_sem,↓reduceIte],by simp (disch:=first|exact dqb|fail) only [go_sem,↓reduceIte],.refl,by rw [List.drop_zero,eZ],by omega,by omega⟩
  ·rintro i fr H hi0 hi hA ⟨r25,a,s,r9,r10,xH,hpn,ha,hs⟩
   have q2:=hA 2 rfl
   have q7:=hA 7 rfl
   have q23:=hA 23 rfl
   have q24:=hA 24 rfl
   try simp (disch:=first|exact dqb|fail) only [go_sem,↓reduceIte] at q2 q7 q23 q24
   have hlt:((i:Int)<(p.length:Int))=True:=eq_true (by omega)
   obtain ⟨c,ec⟩:∃ c,c=p[i]:=⟨_,rfl⟩
   have hx:p[i]?=some c:=by rw [ec];exact List.getElem?_eq_getElem hi
   rw [List.drop_eq_getElem_cons hi,← ec] at hpn
   have xh:=xx.trans xH
   have iP:=hP.ext xh
   have a1:=ct_ad iP hi
   have b1:=ct_ld iP hx
   have g0H:=xH.get p0
   obtain ⟨H2,eH2⟩:∃ H2,H2=H++[cutB c]:=⟨_,rfl⟩
   have x2:Ext H H2:=by rw [eH2];exact .app .refl
   have gc:H2[H.length]?=some (cutB c):=by rw [eH2];exact get_eq rfl
   have g02:=x2.get g0H
   have l2:H2.length=H.length+1:=by rw [eH2];simp
   have lH:=xH.len
   have hw:=fun base=>run_want (base:=base) (L:=R.L) (x:=c.w) (hW.ext (xh.trans x2)) o1
   have hu:=fun base=>run_unit (base:=base) (h:=H2) (x:=c.f) (show -100000≤R.L∧R.L≤100000 by omega) o1 o2
   unfold plnL at hpn
   unfold cutB at eH2 gc
   by_cases c1:0≤c.w∧c.w≤(R.W.length:Int)-1
   ·rw [decide_eq_true c1] at hw
    by_cases c2:0≤c.f∧c.f≤R.L-1
    ·rw [decide_eq_true c2] at hu
     rw [if_neg (fun z=>z ⟨c1,c2⟩)] at hpn
     obtain ⟨k,ek⟩:=Int.eq_ofNat_of_zero_le c1.1
     obtain ⟨x,ex⟩:=Int.eq_ofNat_of_zero_le c2.1
     have hwk:R.W[k]?=some (R.W[k]'(by omega)):=List.getElem?_eq_getElem (by omega)
     generalize R.W[k]'(by omega)=w at hwk
     have ht:=fun base=>run_take (base:=base) (j:=c.j) (hD.ext (xH.trans x2)) hR hwk (show x<R.L.toNat by omega)
     have etc:takC R c=takL R w x c.j:=by unfold takC;rw [ek,Int.toNat_natCast,hwk];simp only;rw [ex,Int.toNat_natCast]
     rw [← ek,← ex] at ht
     cases hto:takC R c with
     | none =>
      rw [hto] at hpn
      simp only at hpn
      rw [← etc,hto] at ht
      unfold takV at ht
      rw [← hpn]
      have hsp:=@Nat.succ_ne_zero;repeat' (first|simp (disch:=first|exact dqb|fail) only [go_sem,↓reduceIte,hsp,r25,r9,r10,q2,q7,q23,q24,hlt,a1,b1,← eH2,gc,g02,hw,hu,ht]|refine WP_drw ?_|refine cnd_intro (fun hsp=>?_) fun hsp=>?_)
      exact ⟨(xh.trans x2).app,_,rfl,One.lit ⟨rfl,rfl,rfl⟩,by simp⟩
     | some e =>
      rw [hto] at hpn
      simp only at hpn
      rw [← etc,hto] at ht
      have htb:=takL_b hR (hR.W w (List.mem_of_getElem? hwk)) (show x<R.L.toNat by omega) (etc.symm.trans hto)
      obtain ⟨e,pr⟩:=e
      simp only at hpn htb
      unfold takV at ht
      simp only at ht
      by_cases c3:c.f<a
      ·have t3:(c.f<a)=True:=eq_true c3
       rw [if_pos c3] at hpn
       rw [← hpn]
       have hsp:=@Nat.succ_ne_zero;repeat' (first|simp (disch:=first|exact dqb|fail) only [go_sem,↓reduceIte,hsp,r25,r9,r10,q2,q7,q23,q24,hlt,a1,b1,← eH2,gc,g02,hw,hu,ht,t3]|refine WP_drw ?_|refine cnd_intro (fun hsp=>?_) fun hsp=>?_)
       exact ⟨(xh.trans x2).app,_,rfl,One.lit ⟨rfl,rfl,rfl⟩,by simp⟩
      ·have t3:(c.f<a)=False:=eq_false c3
       rw [if_neg c3] at hpn
       have hsp:=@Nat.succ_ne_zero;repeat' (first|simp (disch:=first|exact dqb|fail) only [go_sem,↓reduceIte,hsp,r25,r9,r10,q2,q7,q23,q24,hlt,a1,b1,← eH2,gc,g02,hw,hu,ht,t3]|refine WP_drw ?_|refine cnd_intro (fun hsp=>?_) fun hsp=>?_)
       exact ⟨agq,by omega,e,s+pr,rfl,rfl,(xH.trans x2).app,hpn,by omega,by omega⟩
    ·rw [decide_eq_false c2] at hu
     rw [if_pos (fun z=>c2 z.2)] at hpn
     rw [← hpn]
     have hsp:=@Nat.succ_ne_zero;repeat' (first|simp (disch:=first|exact dqb|fail) only [go_sem,↓reduceIte,hsp,r25,r9,r10,q2,q7,q23,q24,hlt,a1,b1,← eH2,gc,g02,hw,hu]|refine WP_drw ?_|refine cnd_intro (fun hsp=>?_) fun hsp=>?_)
     exact ⟨xh.trans x2,_,rfl,One.lit ⟨rfl,rfl,rfl⟩,by simp⟩
   ·rw [decide_eq_false c1] at hw
    rw [if_pos (fun z=>c1 z.1)] at hpn
    rw [← hpn]
    have hsp:=@Nat.succ_ne_zero;repeat' (first|simp (disch:=first|exact dqb|fail) only [go_sem,↓reduceIte,hsp,r25,r9,r10,q2,q7,q23,q24,hlt,a1,b1,← eH2,gc,g02,hw]|refine WP_drw ?_|refine cnd_intro (fun hsp=>?_) fun hsp=>?_)
    exact ⟨xh.trans x2,_,rfl,One.lit ⟨rfl,rfl,rfl⟩,by simp⟩
  ·rintro fr H hA ⟨r25,a,s,r9,r10,xH,hpn,ha,hs⟩
   have q2:=hA 2 rfl
   have q7:=hA 7 rfl
   have q23:=hA 23 rfl
   have q24:=hA 24 rfl
   try simp (disch:=first|exact dqb|fail) only [go_sem,↓reduceIte] at q2 q7 q23 q24
   have hlt:((p.length:Int)<(p.length:Int))=False:=eq_false (by omega)
   rw [List.drop_length,plnL] at hpn
   rw [← hpn]
   have hsp:=@Nat.succ_ne_zero;repeat' (first|simp (disch:=first|exact dqb|fail) only [go_sem,↓reduceIte,hsp,r25,r9,r10,q2,q7,q23,q24,hlt]|refine WP_drw ?_|refine cnd_intro (fun hsp=>?_) fun hsp=>?_)
   exact ⟨xx.trans xH,_,rfl,One.lit ⟨rfl,rfl,rfl⟩,fun _=>⟨id,rfl,by omega,hD.ext xH⟩⟩
 ·have t0:(chkR R=0)=False:=eq_false c0
  have r:=r1 c0
  subst r
  have re:plnE R p=(0,chkR R):=by unfold plnE;rw [if_pos c0]
  rw [re]
  refine ret_raw func115 rfl (by kernel_rfl) ?_
  have hsp:=@Nat.succ_ne_zero;repeat' (first|simp (disch:=first|exact dqb|fail) only [go_sem,↓reduceIte,hsp,← eG0,g0,e1,t0]|refine WP_drw ?_|refine cnd_intro (fun hsp=>?_) fun hsp=>?_)
  exact ⟨xx,_,rfl,One.lit ⟨rfl,rfl,rfl⟩,fun q=>by first|exact q.elim|exact absurd q c0⟩
end Go.AM
namespace Go.AM
open Go.Proofs.Tryz
attribute [-go_sem] put_ne put_same
attribute [local go_sem ↓] put_if
def mpB (ks:List Int):List (AVal × AVal):=ks.map fun k=>(.int .i64 k,.bool true)
theorem eqI {a b:Int}:eqT prog eqDepth 3 (.int .i64 a) (.int .i64 b)=some (decide (a=b)):=by
 by_cases h:a=b<;>simp [eqT,eqDepth,h]
theorem keyI {a:Int}:keyOk prog eqDepth 3 (.int .i64 a)=true:=by kernel_rfl
theorem find_mp {k:Int}:∀ {ks:List Int},findA prog 3 (.int .i64 k) (mpB ks)=some (if k ∈ ks then some (ks.idxOf k) else none)
 | []=>rfl
 | j :: ks=>by
  have ih:=find_mp (k:=k) (ks:=ks)
  simp only [mpB,List.map_cons,findA,eqI]
  by_cases h:k=j
  ·subst h;simp
  ·rw [decide_eq_false h]
   simp only
   rw [show findA prog 3 (.int .i64 k) (ks.map fun k=>(AVal.int .i64 k,AVal.bool true))=_ from ih,List.idxOf_cons,show (j == k)=false by simpa using fun q=>h q.symm]
   by_cases h2:k ∈ ks
   ·rw [if_pos h2,if_pos (by simp [h2])];rfl
   ·rw [if_neg h2,if_neg (by simp [h,h2])];rfl
def insK (ks:List Int) (k:Int):List Int:=if k ∈ ks then ks else ks++[k]
theorem look_mp {H:Heap} {m:Nat} {k:Int} {ks:List Int} (hm:H[m]?=some ⟨.map (mpB ks),0⟩):lookupA prog H 182 (.map (some m)) (.int .i64 k) false=some (.bool (decide (k ∈ ks))):=by
 simp only [lookupA,Fc.mp182,entriesA,hm,keyI,if_true,find_mp]
 by_cases h:k ∈ ks
 ·rw [if_pos h]
  have hi:=List.idxOf_lt_length_of_mem h
  have:(mpB ks)[ks.idxOf k]?=some (.int .i64 (ks[ks.idxOf k]),.bool true):=by
   simp only [mpB,List.getElem?_map,List.getElem?_eq_getElem hi,Option.map_some]
  simp [this,h]
 ·rw [if_neg h,decide_eq_false h]
  simp only [show zvA prog 4=some (.bool false) by kernel_rfl]
  rfl
theorem upd_mp {base:Nat} {H:Heap} {m:Nat} {k:Int} {ks:List Int} (hb:base≤m) (hm:H[m]?=some ⟨.map (mpB ks),0⟩):mapUpdateA prog base H 182 (.map (some m)) (.int .i64 k) (.bool true)=some (H.set m ⟨.map (mpB (insK ks k)),0⟩):=by
 simp only [mapUpdateA,Fc.mp182,hm,keyI,find_mp]
 rw [if_pos ⟨trivial,.inl hb⟩]
 unfold insK
 by_cases h:k ∈ ks
 ·rw [if_pos h,if_pos h]
  have hi:=List.idxOf_lt_length_of_mem h
  have hk:ks[ks.idxOf k]=k:=List.getElem_idxOf hi
  have e1:((mpB ks)[ks.idxOf k]?).map (·.1)=some (.int .i64 k):=by
   simp only [mpB,List.getElem?_map,List.getElem?_eq_getElem hi,Option.map_some,hk]
  simp only
  rw [if_pos e1]
  have:(mpB ks).set (ks.idxOf k) (.int .i64 k,.bool true)=mpB ks:=by
   refine List.ext_getElem? fun i=>?_
   rw [List.getElem?_set]
   split
   ·rename_i e
    rw [← e]
    simp only [mpB,List.getElem?_map,List.getElem?_eq_getElem hi,Option.map_some,hk,List.length_map]
    rw [if_pos hi]
   ·rfl
  rw [this]
 ·rw [if_neg h,if_neg h]
  simp only [mpB,List.map_append,List.map_cons,List.map_nil]
def takU (R:Rib) (c:Ct):List Int:=match R.W[c.w.toNat]? with
 | none=>[]
 | some w=>(uniO R w c.f.toNat c.j).1
def tknL (R:Rib):List Ct→List Int→List Int
 | [],ks=>ks
 | c :: p,ks=>tknL R p ((takU R c).foldl insK ks)
def spnS (t:List Int) (o:List (Int × Int)) (u:Nat):List (Int × Int) :=
 if (u:Int) ∈ t then o else if 0<o.length∧(o.getD (o.length-1) (0,0)).2=(u:Int)-1 then o.set (o.length-1) ((o.getD (o.length-1) (0,0)).1,(u:Int)) else o++[((u:Int),(u:Int))]
def spnN (t:List Int):Nat→List (Int × Int)
 | 0=>[]
 | n+1=>spnS t (spnN t n) n
def rstE (R:Rib) (p:List Ct):List (Int × Int) × Int:=if (plnE R p).2 ≠ 0 then ([],(plnE R p).2) else (spnN (tknL R p []) R.L.toNat,0)
theorem plnL_rng {R:Rib}:∀ {p:List Ct} {a s:Int},(plnL R p a s).2=0→∀ c ∈ p,((0≤c.w∧c.w≤(R.W.length:Int)-1)∧(0≤c.f∧c.f≤R.L-1))∧∃ e,takC R c=some e
 | [],_,_,_=>fun c hc=>by cases hc
 | d :: p,a,s,h=>by
  unfold plnL at h
  split at h
  ·simp at h
  ·rename_i h1
   have h1:=Classical.not_not.1 h1
   split at h
   ·simp at h
   ·rename_i e he
    split at h
    ·simp at h
    ·intro c hc
     rcases List.mem_cons.1 hc with rfl|hc
     ·exact ⟨h1,e,he⟩
     ·exact plnL_rng h c hc
theorem spnN_len {t:List Int}:∀ {n},(spnN t n).length≤n
 | 0=>by simp [spnN]
 | n+1=>by
  have:=spnN_len (t:=t) (n:=n)
  unfold spnN spnS
  split
  ·omega
  ·split
   ·rw [List.length_set];omega
   ·rw [List.length_append,List.length_cons,List.length_nil];omega
theorem spnN_b {t:List Int}:∀ {n:Nat},∀ y ∈ spnN t n,(0≤y.1∧y.1<(n:Int))∧(0≤y.2∧y.2<(n:Int))
 | 0=>by intro y hy;cases hy
 | n+1=>by
  have ih:=spnN_b (t:=t) (n:=n)
  intro y hy
  unfold spnN spnS at hy
  split at hy
  ·have:=ih y hy;omega
  ·split at hy
   ·rename_i h1 h2
    rcases List.mem_or_eq_of_mem_set hy with q|q
    ·have:=ih y q;omega
    ·have:=ih _ (getD_mem' (d:=((0:Int),(0:Int))) (show (spnN t n).length-1<(spnN t n).length by omega))
     rw [q];simp only;omega
   ·rcases List.mem_append.1 hy with q|q
    ·have:=ih y q;omega
    ·simp at q;rw [q];simp only;omega
theorem ldB_cellE {α:Type} {E:Enc α} {e:TypeId} {l:List α} {i o ver z:Nat} {x:α} {a:AVal} (hx:l[i]?=some x) (ho:(E.cells x)[o]?=some a):ldB (some (false,z)) (some (rowE E e l ver)) ver (i * E.z+o)=some a:=by
 have hoz:=(List.getElem?_eq_some_iff.1 ho).1
 rw [E.len] at hoz
 have hg:=flat_get E hx
 unfold rowE
 rw [ldB_cell]
 rw [← hg,List.getElem?_take,if_pos hoz,List.getElem?_drop] at ho
 exact ho
theorem bsS1 {lit:Bool} {H:Heap} {a b:Int}:bsA prog lit H 112 1 [(0,.agg [.int .i64 a,.int .i64 b])]=some (.slice (some ⟨H.length,0,0⟩) 1 1,H++[rowE encS 84 [(a,b)] 0]):=by
 simp [bsA,rowOf,Fc.el112,fillA,repCells,AVal.isN,AVal.cells,splice,rowE,flat,encS]
set_option maxRecDepth 100000 in
set_option maxHeartbeats 4000000 in
theorem run_Rest {base:Nat} {h:Heap} {v pv:AVal} {R:Rib} {p:List Ct} (hb:base≤h.length) (hA:RibAt h v R) (hsm:R.F.length≤1048576) (hP:Rows encC h pv p) :
  Ret prog raw base (.fn 44 [] []) [v,pv] h (fun w H=>Ext h H∧∃ u,w=.tuple [u,.int .i64 (rstE R p).2]∧Own encS 84 h.length H u (rstE R p).1):=by
 have hAe:=fun H (e:Ext h H)=>hA.ext e
 obtain ⟨fv,wv,rfl,hF,hW⟩:=hA
 have o1:=hF.one
 have o2:=hW.one
 have op:=hP.one
 obtain ⟨G0,eG0⟩:∃ G0,G0=h++[ribB R.L fv wv]:=⟨_,rfl⟩
 have x0:Ext h G0:=by rw [eG0];exact .app .refl
 have g0:G0[h.length]?=some (ribB R.L fv wv):=by rw [eG0];exact get_eq rfl
 have l0:G0.length=h.length+1:=by rw [eG0];simp
 obtain ⟨w1,H1,e1,x1,a,rfl,oa,hid⟩:=run_planned (base:=base) (h:=G0) (p:=p) (by omega) (hAe G0 x0) hsm (hP.ext x0)
 have l1:=x1.len
 have xx:=x0.trans x1
 have p0:=x1.get g0
 unfold ribB at eG0 g0 p0
 by_cases c0:(plnE R p).2=0
 ·obtain ⟨id,rfl,hidl,hD⟩:=hid c0
  have hck:chkR R=0:=by
   cases Classical.em (chkR R=0) with
   | inl q=>exact q
   | inr q=>unfold plnE at c0;rw [if_pos q] at c0;exact absurd c0 q
  have hR:=chkR_iff.1 hck
  have hL:=hR.L
  have hpl:=hP.1
  have hrng:=plnL_rng (R:=R) (p:=p) (a:=0) (s:=0) (by have:=c0;unfold plnE at this;rwa [if_neg (by simp [hck])] at this)
  rw [c0] at e1
  have re:rstE R p=(spnN (tknL R p []) R.L.toNat,0):=by unfold rstE;rw [if_neg (by simp [c0])]
  rw [re]
  obtain ⟨T,eT⟩:∃ T,T=tknL R p []:=⟨_,rfl⟩
  rw [← eT]
  obtain ⟨mb,emb⟩:∃ mb,mb=H1.length:=⟨_,rfl⟩
  obtain ⟨H2,eH2⟩:∃ H2,H2=H1++[⟨.map (mpB []),0⟩]:=⟨_,rfl⟩
  have x2:Ext H1 H2:=by rw [eH2];exact .app .refl
  have gm:H2[mb]?=some ⟨.map (mpB []),0⟩:=by rw [eH2];exact get_eq emb
  have l2:H2.length=mb+1:=by rw [eH2,emb];simp
  have hn:=(hP.ext (xx.trans x2)).len (P:=prog) Fc.el51
  have eH2':H1++[(⟨.map [],0⟩:ABlk)]=H2:=eH2.symm
  refine ret_raw func44 rfl (by kernel_rfl) ?_
  have hsp:=@Nat.succ_ne_zero;repeat' (first|simp (disch:=first|exact dqb|fail) only [go_sem,↓reduceIte,hsp,← eG0,g0,e1,eq_self,eH2',← emb,hn]|refine WP_drw ?_|refine cnd_intro (fun hsp=>?_) fun hsp=>?_)
  refine WP_count [(11,16),(33,53)] 0 p.length (Nat.zero_le _) (fun _ i fr H=>fr 33=.int .i64 (i:Int)∧Ext H1 H∧mb<H.length∧∃ ks,H[mb]?=some ⟨.map (mpB ks),0⟩∧tknL R (p.drop i) ks=T) ?_ ?_ ?_
  ·exact ⟨by (simp (disch:=first|exact dqb|fail) only [go_sem,↓reduceIte,Int.natCast_zero];first|done|rfl),x2,by omega,[],gm,by rw [List.drop_zero,eT]⟩
  ·rintro i fr H hi0 hi hA ⟨r33,xH,lH,ks,gk,htk⟩
   have q2:=hA 2 rfl
   have q4:=hA 4 rfl
   have q5:=hA 5 rfl
   have q6:=hA 6 rfl
   have q9:=hA 9 rfl
   have q31:=hA 31 rfl
   have q32:=hA 32 rfl
   try simp (disch:=first|exact dqb|fail) only [go_sem,↓reduceIte] at q2 q4 q5 q6 q9 q31 q32
   have hlt:((i:Int)<(p.length:Int))=True:=eq_true (by omega)
   obtain ⟨c,ec⟩:∃ c,c=p[i]:=⟨_,rfl⟩
   have hx:p[i]?=some c:=by rw [ec];exact List.getElem?_eq_getElem hi
   rw [List.drop_eq_getElem_cons hi,← ec,tknL] at htk
   have iP:=hP.ext (xx.trans xH)
   have a1:=ct_ad iP hi
   have b1:=ct_ld iP hx
   obtain ⟨⟨c1,c2⟩,_⟩:=hrng c (List.mem_of_getElem? hx)
   obtain ⟨k,ek⟩:=Int.eq_ofNat_of_zero_le c1.1
   obtain ⟨x,ex⟩:=Int.eq_ofNat_of_zero_le c2.1
   have hwk:R.W[k]?=some (R.W[k]'(by omega)):=List.getElem?_eq_getElem (by omega)
   generalize R.W[k]'(by omega)=w at hwk
   obtain ⟨H3,eH3⟩:∃ H3,H3=H++[cutB c]:=⟨_,rfl⟩
   have x3:Ext H H3:=by rw [eH3];exact .app .refl
   have gc:H3[H.length]?=some (cutB c):=by rw [eH3];exact get_eq rfl
   have l3:H3.length=H.length+1:=by rw [eH3];simp
   have lH1:=xH.len
   obtain ⟨v4,H4,e4,x4,ov,rfl,oV⟩:=run_units (base:=base) (h:=H3) (j:=c.j) (by omega) (hD.ext (xH.trans x3)) hR hwk (show x<R.L.toNat by omega)
   rw [← ek,← ex] at e4
   have l4:=x4.len
   have etu:takU R c=(uniO R w x c.j).1:=by unfold takU;rw [ek,Int.toNat_natCast,hwk];simp only;rw [ex,Int.toNat_natCast]
   rw [etu] at htk
   obtain ⟨us,eus⟩:∃ us,us=(uniO R w x c.j).1:=⟨_,rfl⟩
   rw [← eus] at oV htk
   have husm:Small us:=by
    rw [eus];unfold uniO
    split
    ·exact ⟨by simp,fun y hy=>by simp at hy⟩
    ·obtain ⟨u,hu1,hu2,hUK,_⟩:=uniP_k (w:=w) (j:=c.j) hR (show x<R.L.toNat by omega)
     exact unK_small hUK (by omega)
   have oov:=oV.one
   have hnu:=lenI (own_ints oV husm)
   have gk4:=(x3.trans x4).get gk
   have husl:=husm.1
   unfold cutB at eH3 gc
   have hsp:=@Nat.succ_ne_zero;repeat' (first|simp (disch:=first|exact dqb|fail) only [go_sem,↓reduceIte,hsp,r33,q2,q4,q5,q6,q9,q31,q32,hlt,a1,b1,← eH3,gc,e4,hnu]|refine WP_drw ?_|refine cnd_intro (fun hsp=>?_) fun hsp=>?_)
   refine WP_count [(16,16),(46,52)] 0 us.length (Nat.zero_le _) (fun _ m fr K=>fr 46=.int .i64 (m:Int)∧Ext H1 K∧mb<K.length∧K[mb]?=some ⟨.map (mpB ((us.take m).foldl insK ks)),0⟩∧Own encI 3 H3.length K ov us) ?_ ?_ ?_
   ·exact ⟨by (simp (disch:=first|exact dqb|fail) only [go_sem,↓reduceIte,Int.natCast_zero];first|done|rfl),(xH.trans x3).trans x4,by omega,by rw [List.take_zero];exact gk4,oV⟩
   ·rintro m fr2 K hm0 hm hA2 ⟨r46,xK,lK,gK,oK⟩
    have d2:=hA2 2 rfl
    have d4:=hA2 4 rfl
    have d5:=hA2 5 rfl
    have d6:=hA2 6 rfl
    have d9:=hA2 9 rfl
    have d31:=hA2 31 rfl
    have d32:=hA2 32 rfl
    have d33:=hA2 33 rfl
    have d44:=hA2 44 rfl
    have d45:=hA2 45 rfl
    try simp (disch:=first|exact dqb|fail) only [go_sem,↓reduceIte,q2,q4,q5,q6,q9,q31,q32] at d2 d4 d5 d6 d9 d31 d32 d33 d44 d45
    have hlt2:((m:Int)<(us.length:Int))=True:=eq_true (by omega)
    have iK:=own_ints oK husm
    have hl0:=loadI iK hm
    have ha0:=adrI (i:=(m:Int)) (by omega) iK (by omega)
    rw [Int.toNat_natCast] at ha0
    have hup:=upd_mp (base:=base) (k:=us.getD m 0) (by omega) gK
    have hsp:=@Nat.succ_ne_zero;repeat' (first|simp (disch:=first|exact dqb|fail) only [go_sem,↓reduceIte,hsp,r46,d2,d4,d5,d6,d9,d31,d32,d33,d44,d45,q2,q4,q5,q6,q9,q31,q32,hlt2,hl0,ha0,hup]|refine WP_drw ?_|refine cnd_intro (fun hsp=>?_) fun hsp=>?_)
    refine ⟨agq,by omega,xK.set (by omega),lK,?_,oK.set (by omega)⟩
    rw [List.take_add_one,getD_some (d:=0) hm,List.foldl_append];rfl
   ·rintro fr2 K hA2 ⟨r46,xK,lK,gK,oK⟩
    have d2:=hA2 2 rfl
    have d4:=hA2 4 rfl
    have d5:=hA2 5 rfl
    have d6:=hA2 6 rfl
    have d9:=hA2 9 rfl
    have d31:=hA2 31 rfl
    have d32:=hA2 32 rfl
    have d33:=hA2 33 rfl
    have d44:=hA2 44 rfl
    have d45:=hA2 45 rfl
    try simp (disch:=first|exact dqb|fail) only [go_sem,↓reduceIte,q2,q4,q5,q6,q9,q31,q32] at d2 d4 d5 d6 d9 d31 d32 d33 d44 d45
    have hlt2:((us.length:Int)<(us.length:Int))=False:=eq_false (by omega)
    have d33:=hA2 33 rfl
    simp (disch:=first|exact dqb|fail) only [go_sem,↓reduceIte,r33] at d33
    rw [List.take_length] at gK
    have hsp:=@Nat.succ_ne_zero;repeat' (first|simp (disch:=first|exact dqb|fail) only [go_sem,↓reduceIte,hsp,r46,d33,d2,d4,d5,d6,d9,d31,d32,d33,d44,d45,q2,q4,q5,q6,q9,q31,q32,hlt2]|refine WP_drw ?_|refine cnd_intro (fun hsp=>?_) fun hsp=>?_)
    exact ⟨agq,by omega,xK,lK,_,gK,htk⟩
  ·rintro fr H hA ⟨r33,xH,lH,ks,gk,htk⟩
   have q2:=hA 2 rfl
   have q4:=hA 4 rfl
   have q5:=hA 5 rfl
   have q6:=hA 6 rfl
   have q9:=hA 9 rfl
   have q31:=hA 31 rfl
   have q32:=hA 32 rfl
   try simp (disch:=first|exact dqb|fail) only [go_sem,↓reduceIte] at q2 q4 q5 q6 q9 q31 q32
   have hlt:((p.length:Int)<(p.length:Int))=False:=eq_false (by omega)
   rw [List.drop_length,tknL] at htk
   rw [htk] at gk
   have p0H:=xH.get p0
   have hLn:R.L=(R.L.toNat:Int):=by omega
   have hsp:=@Nat.succ_ne_zero;repeat' (first|simp (disch:=first|exact dqb|fail) only [go_sem,↓reduceIte,hsp,r33,q2,q4,q5,q6,q9,q31,q32,hlt,p0H]|refine WP_drw ?_|refine cnd_intro (fun hsp=>?_) fun hsp=>?_)
   refine WP_count [(17,19),(56,91)] 0 R.L.toNat (Nat.zero_le _) (fun _ u fr K=>fr 56=.int .i64 (u:Int)∧Ext H1 K∧mb<K.length∧K[mb]?=some ⟨.map (mpB T),0⟩∧∃ ov,fr 17=ov∧Own encS 84 (mb+1) K ov (spnN T u)) ?_ ?_ ?_
   ·exact ⟨by (simp (disch:=first|exact dqb|fail) only [go_sem,↓reduceIte,Int.natCast_zero];first|done|rfl),xH,lH,gk,_,by simp (disch:=first|exact dqb|fail) only [go_sem,↓reduceIte],Own.nil⟩
   ·rintro u fr2 K hu0 hu hA2 ⟨r56,xK,lK,gK,ov,r17,oK⟩
    have d4:=hA2 4 rfl
    have d5:=hA2 5 rfl
    have d9:=hA2 9 rfl
    have d55:=hA2 55 rfl
    try simp (disch:=first|exact dqb|fail) only [go_sem,↓reduceIte,q4,q5,q9] at d4 d5 d9 d55
    have hlt2:((u:Int)<R.L)=True:=eq_true (by omega)
    have hlk:=look_mp (k:=(u:Int)) gK
    have oov:=oK.one
    have hsl:=spnN_len (t:=T) (n:=u)
    have hno:=own_len oK Fc.el112 (by omega)
    have hsb:=spnN_b (t:=T) (n:=u)
    have hst:spnN T (u+1)=spnS T (spnN T u) u:=rfl
    obtain ⟨o,eo⟩:∃ o,o=spnN T u:=⟨_,rfl⟩
    rw [← eo] at oK hsl hno hsb hst
    unfold spnS at hst
    by_cases d1:(u:Int) ∈ T
    ·rw [decide_eq_true d1] at hlk
     rw [if_pos d1] at hst
     have hsp:=@Nat.succ_ne_zero;repeat' (first|simp (disch:=first|exact dqb|fail) only [go_sem,↓reduceIte,hsp,r56,r17,d4,d5,d9,d55,q2,q4,q5,q6,q9,q31,q32,hlt2,hno,hlk]|refine WP_drw ?_|refine cnd_intro (fun hsp=>?_) fun hsp=>?_)
     exact ⟨agq,by omega,xK,lK,gK,ov,rfl,by rw [hst];exact oK⟩
    ·rw [decide_eq_false d1] at hlk
     rw [if_neg d1] at hst
     by_cases d2:0<o.length
     ·have t2:((o.length:Int) > 0)=True:=eq_true (by omega)
      have hlast:o[o.length-1]?=some (o.getD (o.length-1) (0,0)):=getD_some (by omega)
      obtain ⟨la,ela⟩:∃ la,la=o.getD (o.length-1) (0,0):=⟨_,rfl⟩
      rw [← ela] at hlast hst
      have hlb:=hsb la (List.mem_of_getElem? hlast)
      have el:((o.length:Int)-1).toNat=o.length-1:=by omega
      rcases oK with ⟨rfl,q0⟩|⟨oid,over,rfl,g1,g2,g3⟩
      ·rw [q0] at d2;simp at d2
      ·have ld1:∀ z,ldB (some (false,z)) (some (rowE encS 84 o over)) over ((o.length-1) * 2+1)=some (.int .i64 la.2):=fun z=>ldB_cellE (E:=encS) hlast rfl
       have lg1:=lt_of_get g1
       by_cases d3:la.2=(u:Int)-1
       ·have t3:(la.2=(u:Int)-1)=True:=eq_true d3
        rw [if_pos ⟨d2,d3⟩] at hst
        have st1:∀ (F:ABlk→Heap),stQ base oid (some (rowE encS 84 o over)) over ((o.length-1) * 2+1) [.int .i64 (u:Int)] F=some (F (rowE encS 84 (o.set (o.length-1) (la.1,(u:Int))) over)):=fun F=>stQ_cellE (E:=encS) (i:=o.length-1) (o:=1) (y:=(la.1,(u:Int))) hlast (by decide) rfl rfl (by omega)
        have hsp:=@Nat.succ_ne_zero;repeat' (first|simp (disch:=first|exact dqb|fail) only [go_sem,↓reduceIte,hsp,r56,r17,d4,d5,d9,d55,q2,q4,q5,q6,q9,q31,q32,hlt2,hno,hlk,t2,el,g1,ld1,t3,st1]|refine WP_drw ?_|refine cnd_intro (fun hsp=>?_) fun hsp=>?_)
        refine ⟨agq,by omega,xK.set (by omega),lK,gK,_,rfl,?_⟩
        rw [hst]
        exact .inr ⟨oid,over,by rw [List.length_set],by rw [List.getElem?_set_self lg1],by omega,by rw [List.length_set];exact g3⟩
       ·have t3:(la.2=(u:Int)-1)=False:=eq_false d3
        rw [if_neg (fun z=>d3 z.2)] at hst
        obtain ⟨K1,eK1⟩:∃ K1,K1=K++[rowE encS 84 [((u:Int),(u:Int))] 0]:=⟨_,rfl⟩
        have y1:Ext K K1:=by rw [eK1];exact .app .refl
        have bs1:=fun lit=>bsS1 (lit:=lit) (H:=K) (a:=(u:Int)) (b:=(u:Int))
        rw [← eK1] at bs1
        have ly:=y1.len
        obtain ⟨u',K2,ea,oK2,l2',ex2,one2,kk2⟩:=(Own.ext (.inr ⟨oid,over,rfl,g1,g2,g3⟩:Own encS 84 (mb+1) K _ o) y1).appendRX (P:=prog) (x:=.slice (some ⟨K.length,0,0⟩) 1 1) (m:=[((u:Int),(u:Int))]) (base:=base) (t:=112) (Rows.own (by rw [eK1];exact get_eq rfl) rfl (by simp)) Fc.el112 encS_sc (by omega) (by omega) (by simp) (by simp;omega)
        have xK2:=ex2 H1 (by omega) (xK.trans y1)
        have gK2:K2[mb]?=some ⟨.map (mpB T),0⟩:=kk2 mb _ (y1.get gK) (fun l' ver q=>by simp [rowE] at q)
        have hsp:=@Nat.succ_ne_zero;repeat' (first|simp (disch:=first|exact dqb|fail) only [go_sem,↓reduceIte,hsp,r56,r17,d4,d5,d9,d55,q2,q4,q5,q6,q9,q31,q32,hlt2,hno,hlk,t2,el,g1,ld1,t3,bs1,ea]|refine WP_drw ?_|refine cnd_intro (fun hsp=>?_) fun hsp=>?_)
        exact ⟨agq,by omega,xK2,by omega,gK2,u',rfl,by rw [hst];exact oK2⟩
     ·have t2:((o.length:Int) > 0)=False:=eq_false (by omega)
      rw [if_neg (fun z=>d2 z.1)] at hst
      obtain ⟨K1,eK1⟩:∃ K1,K1=K++[rowE encS 84 [((u:Int),(u:Int))] 0]:=⟨_,rfl⟩
      have y1:Ext K K1:=by rw [eK1];exact .app .refl
      have bs1:=fun lit=>bsS1 (lit:=lit) (H:=K) (a:=(u:Int)) (b:=(u:Int))
      rw [← eK1] at bs1
      have ly:=y1.len
      obtain ⟨u',K2,ea,oK2,l2',ex2,one2,kk2⟩:=(oK.ext y1).appendRX (P:=prog) (x:=.slice (some ⟨K.length,0,0⟩) 1 1) (m:=[((u:Int),(u:Int))]) (base:=base) (t:=112) (Rows.own (by rw [eK1];exact get_eq rfl) rfl (by simp)) Fc.el112 encS_sc (by omega) (by omega) (by simp) (by simp;omega)
      have xK2:=ex2 H1 (by omega) (xK.trans y1)
      have gK2:K2[mb]?=some ⟨.map (mpB T),0⟩:=kk2 mb _ (y1.get gK) (fun l' ver q=>by simp [rowE] at q)
      have hsp:=@Nat.succ_ne_zero;repeat' (first|simp (disch:=first|exact dqb|fail) only [go_sem,↓reduceIte,hsp,r56,r17,d4,d5,d9,d55,q2,q4,q5,q6,q9,q31,q32,hlt2,hno,hlk,t2,bs1,ea]|refine WP_drw ?_|refine cnd_intro (fun hsp=>?_) fun hsp=>?_)
      exact ⟨agq,by omega,xK2,by omega,gK2,u',rfl,by rw [hst];exact oK2⟩
   ·rintro fr2 K hA2 ⟨r56,xK,lK,gK,ov,r17,oK⟩
    have d4:=hA2 4 rfl
    have d5:=hA2 5 rfl
    have d9:=hA2 9 rfl
    have d55:=hA2 55 rfl
    try simp (disch:=first|exact dqb|fail) only [go_sem,↓reduceIte,q4,q5,q9] at d4 d5 d9 d55
    have hlt2:(((R.L.toNat:Nat):Int)<R.L)=False:=eq_false (by omega)
    have oov:=oK.one
    have hsp:=@Nat.succ_ne_zero;repeat' (first|simp (disch:=first|exact dqb|fail) only [go_sem,↓reduceIte,hsp,r56,r17,d4,d5,d9,d55,q2,q4,q5,q6,q9,q31,q32,hlt2]|refine WP_drw ?_|refine cnd_intro (fun hsp=>?_) fun hsp=>?_)
    exact ⟨xx.trans xK,ov,rfl,oK.low (by omega)⟩
 ·have t0:((plnE R p).2=0)=False:=eq_false c0
  have re:rstE R p=([],(plnE R p).2):=by unfold rstE;rw [if_pos c0]
  rw [re]
  refine ret_raw func44 rfl (by kernel_rfl) ?_
  have hsp:=@Nat.succ_ne_zero;repeat' (first|simp (disch:=first|exact dqb|fail) only [go_sem,↓reduceIte,hsp,← eG0,g0,e1,t0]|refine WP_drw ?_|refine cnd_intro (fun hsp=>?_) fun hsp=>?_)
  exact ⟨xx,_,rfl,Own.nil⟩
end Go.AM
namespace Go.AM
open Go.Proofs.Tryz
section
variable {α:Type} {E:Enc α} {P:Program} {base:Nat} {h:Heap} {v:AVal} {l:List α} {t e:TypeId} {zs:List AVal}
theorem Rows.nilEq2 (hR:Rows E h v l) (ht:P.underlying t=some (.slice e)):(v=.slice none 0 0∧l=[]∧binA P .eql t v (.slice .none 0 0)=some (.bool true)) ∨ binA P .eql t v (.slice .none 0 0)=some (.bool false):=by
 rcases hR.2 with ⟨rfl,rfl⟩|⟨rfl,rfl⟩|⟨r,k,c,e,row,ro,rfl,_⟩
 ·exact .inl ⟨rfl,rfl,by simp [binA,eqT,eqDepth,ht,nilS]⟩
 ·exact .inr (by simp [binA,eqT,eqDepth,ht,nilS])
 ·exact .inr (by simp [binA,eqT,eqDepth,ht,nilS])
theorem app_empE (hR:Rows E h v l) (hl:l ≠ []) (hs:∀ y,(E.cells y).all AVal.scalar=true) (hsz:l.length<2147483648) (ht:elS P t=some (e,E.z,zs)) :
  appendA P base h t .emp v=some (.slice (some ⟨h.length,0,0⟩) l.length l.length,h++[rowE E e l 0]):=by
 have hn:l.length ≠ 0:=fun q=>hl (List.eq_nil_of_length_eq_zero q)
 simp only [appendA,ht,hR.lenA,hR.firstN,flat_scalar hs,if_true]
 rw [if_neg hn,if_pos (show l.length<2 ^ 31 by omega)]
 first|done|rfl
end
end Go.AM
