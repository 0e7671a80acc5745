/-
  Contracts: all orders that explain the rows, one behind the other (orders).
-/
import Derived.Test.YteanoaejoddnbaaU13
import Derived.Test.YteanoaejoddnbaaU11
import Derived.Test.YteanoaejoddnbaaU12
set_option linter.unusedSimpArgs false
set_option linter.unusedVariables false
namespace Go.AM
open Go.Proofs.Try
attribute [-go_sem] put_ne put_same
attribute [local go_sem ↓] put_if
theorem fnd_nof {L:Lac} (hn:L.C.length≤7) (h:nofB L=true):fnd L=[]:=by
 obtain ⟨p,hp,q⟩:=(nofB_no hn).1 h
 refine List.eq_nil_iff_forall_not_mem.2 fun o ho=>?_
 obtain ⟨⟨h1,h2,_⟩,h4⟩:=fnd_mem.1 ho
 have h5:=h4 p (by omega)
 have h6:=h2 _ (getD_mem (l:=o) (i:=p) (by omega))
 rw [q _ (by omega)] at h5
 cases h5
def XO (L:Lac) (Lx j:Nat) (a:List AVal) (H:Heap):Prop:=∃ v t,a=[v]∧(fnd L)[j]?=some t∧OwnE encI 3 (Lx+1) H v t
set_option maxRecDepth 100000 in
set_option maxHeartbeats 2000000 in
theorem orders_yields {L:Lac} {base Lx db id:Nat} {I:Nat→Heap→Prop} (hn:L.C.length≤7) (hb:base≤Lx+1) (hI:∀ j H,I j H→DskAt H id L∧H[db]?=some (pB id)) :
  YieldsX prog raw base Lx (.fn 187 [] [.ptr (some ⟨db,0,0⟩)]) (fnd L).length (XO L Lx) prZ I:=by
 intro J S H0 hL hJI happ hcb h0
 have hS:OrdS L base Lx db id J S:=⟨hb,hn,fun j H q=>⟨(hI _ _ (hJI j H q).1).1,(hI _ _ (hJI j H q).1).2,(hJI j H q).2⟩,happ,fun j v t H ht hO hJ=>by
  obtain ⟨b,H',e,k,l,y1,y2⟩:=hcb j [v] H (List.getElem?_eq_some_iff.1 ht).1 ⟨v,t,rfl,ht,hO⟩ hJ
  exact ⟨b,H',e,⟨l,k⟩,y1,y2⟩⟩
 obtain ⟨⟨cv,rv,gd,hC,hR⟩,gdb,hH⟩:=hS.at' 0 H0 h0
 have ldb:=lt_of_get gdb
 have lid:=lt_of_get gd
 obtain ⟨G,eG⟩:∃ G,G=H0++[fnB (.yld Lx)]:=⟨_,rfl⟩
 have xG:Ext H0 G:=by rw [eG];exact .app .refl
 have gy:G[H0.length]?=some (fnB (.yld Lx)):=by rw [eG];exact get_eq rfl
 have lG:G.length=H0.length+1:=by rw [eG];simp
 have gdG:=xG.get gd
 have gdbG:=xG.get gdb
 have lc:=ld_cards gdG
 have hlc:=lenI (hC.ext xG)
 have sl:sliceA prog 150 (.ptr (some ⟨id,0,3⟩)) none (some (.int .i64 (L.C.length:Int))) none=some (.slice (some ⟨id,0,3⟩) L.C.length 7):=by
  simp only [sliceA,Fc.ar150,optB,boundI (show (0:Int)≤(L.C.length:Int) by omega) (show (L.C.length:Int)≤((7:Nat):Int) by omega)]
  simp [ARef.add]
 have hc7:=run_cont7 (base:=base) gdG hn
 have bz:buildA prog 148 []=some z7:=by simp [buildA,Fc.zc148,fillA];kernel_rfl
 suffices hh:Ret prog raw base (.fn 187 [] [.ptr (some ⟨db,0,0⟩)]) [.yld Lx] H0 (fun w H'=>J (fnd L).length H' ∨ S H') by
  obtain ⟨w,H',e,k⟩:=hh
  exact ⟨w,H',e,k⟩
 unfold fnB at eG gy
 unfold z7 at hc7 bz
 cases c:nofB L with
 | true =>
  rw [c] at hc7
  refine ret_raw func187 rfl (by kernel_rfl) ?_
  have hsp:=@Nat.succ_ne_zero;repeat' (first|simp (disch:=first|exact dqb|fail) only [go_sem,↓reduceIte,hsp,← eG,gdbG,lc,hlc,sl,bz,hc7]|refine WP_drw ?_|refine cnd_intro (fun hsp=>?_) fun hsp=>?_)
  rw [fnd_nof hn c]
  exact .inl (hS.ext h0 xG)
 | false =>
  rw [c] at hc7
  obtain ⟨G2,eG2⟩:∃ G2,G2=G++[fnB (morV db (Lx+1) (Lx+2))]:=⟨_,rfl⟩
  have x2:Ext G G2:=by rw [eG2];exact .app .refl
  have gm:G2[Lx+2]?=some (fnB (morV db (Lx+1) (Lx+2))):=by rw [eG2];exact get_eq (by omega)
  obtain ⟨w,H',e1,k1,b,rfl,c1,c2⟩:=run_moreO hS L.C.length (l:=[]) (lv:=.slice none 0 0) (H:=G2) (j:=0) (by simp) (hS.ext h0 (xG.trans x2)) (by have:=x2.get gy;rwa [← hL] at this) gm (.inl Own.nil) (fun x hx=>by simp at hx) (fun i t ht=>by rw [Nat.zero_add];exact ht)
  have l2:G2.length=G.length+1:=by rw [eG2];simp
  have hk1:=k1.1
  have gmm:G2[G.length]?=some (fnB (morV db (Lx+1) (Lx+2))):=by rw [show G.length=Lx+2 by omega];exact gm
  unfold morV at e1 gmm eG2
  unfold fnB at gmm eG2
  rw [show Lx+2=G.length by omega,show Lx+1=H0.length by omega] at e1 gmm eG2
  refine ret_raw func187 rfl (by kernel_rfl) ?_
  have hsp:=@Nat.succ_ne_zero;repeat' (first|simp (disch:=first|exact dqb|fail) only [go_sem,↓reduceIte,hsp,← eG,gdbG,lc,hlc,sl,bz,hc7,← eG2,gmm,e1]|refine WP_drw ?_|refine cnd_intro (fun hsp=>?_) fun hsp=>?_)
  rw [Nat.zero_add] at c1
  cases b with
  | true=>exact .inl (c1 rfl)
  | false=>exact .inr (c2 rfl)
theorem run_orders {base id:Nat} {h:Heap}:Ret prog raw base (.fn 154 [] []) [.ptr (some ⟨id,0,0⟩)] h (fun w H=>w=.fn 187 [] [.ptr (some ⟨h.length,0,0⟩)]∧H=h++[pB id]):=by
 unfold pB
 refine ret_raw func154 rfl (by kernel_rfl) ?_
 have hsp:=@Nat.succ_ne_zero;repeat' (first|simp (disch:=first|exact dqb|fail) only [go_sem,↓reduceIte,hsp]|refine WP_drw ?_|refine cnd_intro (fun hsp=>?_) fun hsp=>?_)
end Go.AM
namespace Go.AM
open Go.Proofs.Try
attribute [-go_sem] put_ne put_same
attribute [local go_sem ↓] put_if
def AllB (b:Nat) (H:Heap) (v:AVal) (ts:List (List Int)):Prop:=∃ vs:List AVal,Own encZ 25 b H v vs∧vs.length=ts.length∧∀ (i:Nat) x t,vs[i]?=some x→ts[i]?=some t→OwnE encI 3 b H x t
section
variable {b:Nat} {H H':Heap} {v:AVal} {ts:List (List Int)}
theorem AllB.all (x:AllB b H v ts):AllI b H v ts:=by
 obtain ⟨vs,h1,h2,h3⟩:=x
 exact ⟨vs,h1,h2,fun i x t a c=>(h3 i x t a c).low (Nat.zero_le _)⟩
theorem AllB.ext (x:AllB b H v ts) (e:Ext H H'):AllB b H' v ts:=by
 obtain ⟨vs,h1,h2,h3⟩:=x
 exact ⟨vs,h1.ext e,h2,fun i x t a c=>(h3 i x t a c).ext e⟩
theorem AllB.set {i:Nat} {k:ABlk} (x:AllB b H v ts) (hi:i<b):AllB b (H.set i k) v ts:=by
 obtain ⟨vs,h1,h2,h3⟩:=x
 exact ⟨vs,h1.set hi,h2,fun i x t a c=>(h3 i x t a c).imp (fun z=>z.set hi) id⟩
theorem AllB.one (x:AllB b H v ts):One v:=by obtain ⟨vs,h1,_⟩:=x;exact h1.one
theorem AllB.low {b':Nat} (x:AllB b H v ts) (hb:b'≤b):AllB b' H v ts:=by
 obtain ⟨vs,h1,h2,h3⟩:=x
 exact ⟨vs,h1.low hb,h2,fun i x t a c=>(h3 i x t a c).low hb⟩
theorem AllB.snoc {A:Heap} {w x:AVal} {t:List Int} {base:Nat} (y:AllB b A w ts) (hx:OwnE encI 3 b A x t) (hb:base≤b) (hbh:b≤A.length) (hl:ts.length≤10000000) :
  ∃ z A',(∀ {lit:Bool},lit=true→bsA prog lit A 54 1 [(0,x)]=some (z,A'))∧Ext A A'∧∃ w' h',appendA prog base A' 54 w z=some (w',h')∧AllB b h' w' (ts++[t])∧A.length≤h'.length∧(∀ G,G.length≤b→Ext G A→Ext G h')∧One w'∧KeepO encZ 25 A h':=by
 obtain ⟨vs,h1,h2,h3⟩:=y
 obtain ⟨z,A',a1,a2,w',h',a3,a4,a5,a6,a7,a8⟩:=snocZI (base:=base) h1 hx.one hb hbh (by omega)
 refine ⟨z,A',a1,a2,w',h',a3,⟨_,a4,by simp [h2],fun i p q g1 g2=>?_⟩,a5,a6,a7,a8⟩
 by_cases hi:i<vs.length
 ·rw [List.getElem?_append_left hi] at g1
  rw [List.getElem?_append_left (by omega)] at g2
  exact a8.ownE (h3 i p q g1 g2) (by decide)
 ·rw [List.getElem?_append_right (by omega)] at g1
  rw [List.getElem?_append_right (by omega)] at g2
  have e0:i-vs.length=0:=by
   have:=(List.getElem?_eq_some_iff.1 g1).1
   simp at this;omega
  rw [e0] at g1
  rw [show i-ts.length=0 by omega] at g2
  cases g1;cases g2
  exact a8.ownE hx (by decide)
end
theorem ordsF_few {fit:Nat→Nat→Bool} {n:Nat}:∀ {d:Nat} {l:List Int},(ordsF fit n d l).length≤n ^ d
 | 0,l=>by simp [ordsF]
 | d+1,l=>by
  have hk:∀ k:Int,(if (fit l.length k.toNat && decide (k ∉ l))=true then ordsF fit n d (l++[k]) else []).length≤n ^ d:=fun k=>by
   split
   ·exact ordsF_few
   ·simp
  rw [ordsF,Nat.pow_succ]
  have:∀ u:List Int,(u.flatMap fun k=>if (fit l.length k.toNat && decide (k ∉ l))=true then ordsF fit n d (l++[k]) else []).length≤u.length * n ^ d:=fun u=>by
   induction u with
   | nil=>simp
   | cons k u ih =>
    rw [List.flatMap_cons,List.length_append,List.length_cons,Nat.add_mul,Nat.one_mul]
    have:=hk k
    omega
  have h2:=this (upto n)
  rw [upto_len,Nat.mul_comm] at h2
  exact h2
theorem fnd_few {L:Lac} (hn:L.C.length≤7):(fnd L).length≤823543:=by
 refine Nat.le_trans ordsF_few ?_
 exact Nat.le_trans (Nat.pow_le_pow_left hn _) (Nat.pow_le_pow_right (by decide) hn)
def fndE (L:Lac):List (List Int) × Int:=if chkL L ≠ 0 then ([],chkL L) else if fnd L=[] then ([],7) else (fnd L,0)
abbrev lsB (v:AVal):ABlk:=⟨.cells [v] 54 false false,0⟩
set_option maxRecDepth 100000 in
set_option maxHeartbeats 4000000 in
theorem run_found {base:Nat} {h:Heap} {v:AVal} {L:Lac} (hb:base≤h.length) (hL:LacAt h v L) :
  Ret prog raw base (.fn 105 [] []) [v] h (fun w H=>Ext h H∧∃ a x,w=.tuple [a,x,.int .i64 (fndE L).2]∧One a∧AllB h.length H x (fndE L).1∧((fndE L).2=0→∃ id,a=.ptr (some ⟨id,0,0⟩)∧DskAt H id L)):=by
 have hL0:=hL
 obtain ⟨cv,rv,rfl,hC,hR⟩:=hL
 have o1:=hC.one
 have o2:=hR.one
 obtain ⟨G0,eG0⟩:∃ G0,G0=h++[lacB L.T cv rv]:=⟨_,rfl⟩
 have x0:Ext h G0:=by rw [eG0];exact .app .refl
 have g0:G0[h.length]?=some (lacB L.T cv rv):=by rw [eG0];exact get_eq rfl
 have l0:G0.length=h.length+1:=by rw [eG0];simp
 obtain ⟨w1,H1,e1,x1,r1,r2⟩:=run_opened (base:=base) (h:=G0) (by omega) (hL0.ext x0)
 have l1:=x1.len
 unfold lacB at eG0 g0
 by_cases c0:chkL L=0
 ·obtain ⟨id,rfl,hid,hD⟩:=r2 c0
  obtain ⟨kT,kn,km,kc,kr,kd⟩:=chkL_iff.1 c0
  obtain ⟨H2,eH2⟩:∃ H2,H2=H1++[lsB (.slice none 0 0)]:=⟨_,rfl⟩
  have x2:Ext H1 H2:=by rw [eH2];exact .app .refl
  have g2:H2[H1.length]?=some (lsB (.slice none 0 0)):=by rw [eH2];exact get_eq rfl
  have l2:H2.length=H1.length+1:=by rw [eH2];simp
  obtain ⟨w3,H3,e3,rfl,eH3⟩:=run_orders (base:=base) (id:=id) (h:=H2)
  have x3:Ext H2 H3:=by rw [eH3];exact .app .refl
  have l3:H3.length=H1.length+2:=by rw [eH3];simp [l2]
  have gdb:H3[H2.length]?=some (pB id):=by rw [eH3];exact get_eq rfl
  unfold lsB at eH2 g2
  refine ret_raw func105 rfl (by kernel_rfl) ?_
  have hsp:=@Nat.succ_ne_zero;repeat' (first|simp (disch:=first|exact dqb|fail) only [go_sem,↓reduceIte,hsp,← eG0,g0,e1,eq_self,← eH2,e3]|refine WP_drw ?_|refine cnd_intro (fun hsp=>?_) fun hsp=>?_)
  refine WP_rangeX (by simp (disch:=first|exact dqb|fail) only [go_sem,↓reduceIte]) (N:=(fnd L).length) (X:=XO L H3.length) (pr:=prZ) (fun j H=>H3.length+1≤H.length∧Ext H1 H∧H[H2.length]?=some (pB id)∧∃ v,H[H1.length]?=some (lsB v)∧AllB (H3.length+1) H v ((fnd L).take j)) (fun _ _=>False)
   (orders_yields (id:=id) (db:=H2.length) kn.2 (by omega) (fun j H q=>⟨hD.ext q.2.1,q.2.2.1⟩)) ?_ ?_ ?_ ?_ ?_ ?_ ?_ ?_
  ·rintro j a H ⟨v,t,rfl,_⟩;rfl
  ·rintro j H T ⟨a,b,c,v,d,e⟩
   exact ⟨by simp;omega,b.trans (.app .refl),get_app c,v,get_app d,e.ext (.app .refl)⟩
  ·rintro j H B ⟨a,b,c,v,d,e⟩
   exact ⟨by simpa using a,b.set (by omega),by rw [List.getElem?_set_ne (by omega)];exact c,v,by rw [List.getElem?_set_ne (by omega)];exact d,e.set (by omega)⟩
  ·intro e H B q;exact q
  ·exact ⟨by simp,(x2.trans x3).trans (.app .refl),get_app gdb,.slice none 0 0,(x3.trans (.app .refl)).get g2,[],Own.nil,rfl,fun i x t q=>by simp at q⟩
  ·rintro j a H B1 B2 hj ⟨v,t,rfl,ht,hO⟩ ⟨hI1,hI2,hI3,u,hI4,hI5⟩ hHl hB
   have ov:=hO.one
   obtain ⟨K,eK⟩:∃ K,K=H.set H3.length B2:=⟨_,rfl⟩
   have lK:K.length=H.length:=by rw [eK,List.length_set]
   have gKB:K[H3.length]?=some B2:=by rw [eK,List.getElem?_set_self (by omega)]
   have gK4:K[H1.length]?=some (lsB u):=by rw [eK,List.getElem?_set_ne (by omega)];exact hI4
   have gK3:K[H2.length]?=some (pB id):=by rw [eK,List.getElem?_set_ne (by omega)];exact hI3
   have xK:Ext H1 K:=by rw [eK];exact hI2.set (by omega)
   have aK:AllB (H3.length+1) K u ((fnd L).take j):=by rw [eK];exact hI5.set (by omega)
   have oK:OwnE encI 3 (H3.length+1) K v t:=by rw [eK];exact hO.imp (fun z=>z.set (by omega)) fun q=>q
   have ou:=aK.one
   have hfew:=fnd_few (L:=L) kn.2
   obtain ⟨z,A',b1,xA,w',h',ea,aW,lW,eW,oneW,kW⟩:=aK.snoc (base:=base) oK (by omega) (by omega) (by rw [List.length_take];omega)
   have gA4:=xA.get gK4
   have gh4:h'[H1.length]?=some (lsB u):=kW.box gK4
   have gh3:h'[H2.length]?=some (pB id):=kW.box gK3
   have ghB:h'[H3.length]?=some B2:=by
    have:=eW (K.take (H3.length+1)) (by simp;omega) ⟨K.drop (H3.length+1),(List.take_append_drop _ _).symm⟩
    refine this.get ?_
    rw [List.getElem?_take,if_pos (by omega)];exact gKB
   have xh':Ext H1 h':=eW _ (by omega) xK
   unfold lsB at gK4 gA4 gh4
   have hsp:=@Nat.succ_ne_zero;repeat' (first|simp (disch:=first|exact dqb|fail) only [go_sem,↓reduceIte,hsp,hB,← eK,gK4,b1,ea,gh4]|refine WP_drw ?_|refine cnd_intro (fun hsp=>?_) fun hsp=>?_)
   have htk:(fnd L).take (j+1)=(fnd L).take j++[t]:=by rw [List.take_add_one,ht];rfl
   refine ⟨ghB,fun i x hi hp hx=>?_,by omega,.inl ⟨by omega,xh'.set (Nat.le_refl _),gh3,w',rfl,by rw [htk];exact aW.set (by omega)⟩⟩
   rw [List.getElem?_set_ne (by omega)]
   refine kW i x ?_ hp
   rw [eK,List.getElem?_set_ne (by omega)]
   exact hx
  ·rintro H ⟨hI1,hI2,hI3,u,hI4,hI5⟩
   rw [List.take_length] at hI5
   have ou:=hI5.one
   have hfew:=fnd_few (L:=L) kn.2
   have lu:=hI5.all.len (by omega)
   unfold lsB at hI4
   by_cases c1:fnd L=[]
   ·have re:fndE L=([],7):=by unfold fndE;rw [if_neg (by simp [c0]),if_pos c1]
    rw [re]
    have t1:(((fnd L).length:Int)=0)=True:=eq_true (by rw [c1];rfl)
    have hsp:=@Nat.succ_ne_zero;repeat' (first|simp (disch:=first|exact dqb|fail) only [go_sem,↓reduceIte,hsp,hI4,lu,t1]|refine WP_drw ?_|refine cnd_intro (fun hsp=>?_) fun hsp=>?_)
    exact ⟨(x0.trans x1).trans hI2,_,_,rfl,⟨rfl,rfl,rfl⟩,⟨[],Own.nil,rfl,fun i x t q=>by simp at q⟩,fun q=>q.elim⟩
   ·have hpos:0<(fnd L).length:=by cases q:fnd L with|nil=>exact absurd q c1|cons a b=>simp
    have re:fndE L=(fnd L,0):=by unfold fndE;rw [if_neg (by simp [c0]),if_neg c1]
    rw [re]
    have t1:(((fnd L).length:Int)=0)=False:=eq_false (by omega)
    have hsp:=@Nat.succ_ne_zero;repeat' (first|simp (disch:=first|exact dqb|fail) only [go_sem,↓reduceIte,hsp,hI4,lu,t1]|refine WP_drw ?_|refine cnd_intro (fun hsp=>?_) fun hsp=>?_)
    exact ⟨(x0.trans x1).trans hI2,_,_,rfl,⟨rfl,rfl,rfl⟩,hI5.low (by omega),fun _=>⟨id,rfl,hD.ext hI2⟩⟩
  ·intro e H _ q;exact q.elim
 ·have t0:(chkL L=0)=False:=eq_false c0
  have r:=r1 c0
  subst r
  have re:fndE L=([],chkL L):=by unfold fndE;rw [if_pos c0]
  rw [re]
  refine ret_raw func105 rfl (by kernel_rfl) ?_
  have hsp:=@Nat.succ_ne_zero;repeat' (first|simp (disch:=first|exact dqb|fail) only [go_sem,↓reduceIte,hsp,← eG0,g0,e1,t0]|refine WP_drw ?_|refine cnd_intro (fun hsp=>?_) fun hsp=>?_)
  exact ⟨x0.trans x1,_,_,rfl,⟨rfl,rfl,rfl⟩,⟨[],Own.nil,rfl,fun i x t q=>by simp at q⟩,fun q=>q.elim⟩
end Go.AM
namespace Go.AM
theorem countP_split {α:Type} {s t:α→Bool}:∀ {l:List α},l.countP (fun x=>s x || t x)=l.countP s+l.countP fun x=>!s x && t x
 | []=>rfl
 | x :: l=>by
  have ih:=countP_split (s:=s) (t:=t) (l:=l)
  simp only [List.countP_cons]
  rw [ih]
  cases s x<;>cases t x<;>simp<;>omega
theorem any_or' {α:Type} {s t:α→Bool}:∀ {l:List α},l.any (fun x=>s x || t x)=(l.any s || l.any t)
 | []=>rfl
 | x :: l=>by
  rw [List.any_cons,List.any_cons,List.any_cons,any_or' (l:=l)]
  cases s x<;>cases t x<;>cases l.any s<;>cases l.any t<;>rfl
theorem countP_ne {β:Type} [DecidableEq β] {s:β→Bool} {k:β}:∀ {l:List β},l.Nodup→l.countP s≤(l.filter fun x=>decide (x ≠ k)).countP s+1
 | [],_=>by simp
 | x :: l,h=>by
  rw [List.nodup_cons] at h
  by_cases e:x=k
  ·subst e
   have e2:l.filter (fun y=>decide (y ≠ x))=l:=List.filter_eq_self.2 fun y hy=>decide_eq_true fun q=>h.1 (q ▸ hy)
   rw [List.filter_cons,if_neg (by simp),e2,List.countP_cons]
   split<;>omega
  ·have ih:=countP_ne (s:=s) (k:=k) h.2
   rw [List.filter_cons,if_pos (by simp [e]),List.countP_cons,List.countP_cons]
   omega
section
variable {α β:Type} [DecidableEq α] [DecidableEq β] [Inhabited β]
def HallC (fit:α→β→Bool) (P:List α) (K:List β):Prop:=∀ s:α→Bool,P.countP s≤K.countP fun k=>P.any fun q=>s q && fit q k
theorem hall_aux (fit:α→β→Bool):∀ (n:Nat) (P:List α) (K:List β),P.length≤n→P.Nodup→K.Nodup→HallC fit P K→∃ m:α→β,(∀ p ∈ P,m p ∈ K∧fit p (m p)=true)∧∀ p ∈ P,∀ q ∈ P,m p=m q→p=q
 | n,[],K,_,_,_,_=>⟨fun _=>default,by simp,by simp⟩
 | 0,p :: P,_,hl,_,_,_=>by simp at hl
 | n+1,p :: P,K,hl,hP,hK,hH=>by
  obtain ⟨hp,hP'⟩:=List.nodup_cons.1 hP
  by_cases hA:∃ s:α→Bool,s p=false∧(∃ q ∈ P,s q=true)∧K.countP (fun k=>(p :: P).any fun q=>s q && fit q k)≤(p :: P).countP s
  ·obtain ⟨s,hs,⟨q0,hq0,hsq⟩,hle⟩:=hA
   have c1:HallC fit ((p :: P).filter s) K:=fun t=>by
    have:=hH fun q=>s q && t q
    rw [List.countP_filter]
    simp only [List.any_filter]
    have e1:(p :: P).countP (fun a=>t a && s a)=(p :: P).countP fun a=>s a && t a:=List.countP_congr fun a _=>by rw [Bool.and_comm]
    rw [e1]
    refine Nat.le_trans this (Nat.le_of_eq (List.countP_congr fun k _=>?_))
    rw [show ((p :: P).any fun q=>(s q && t q) && fit q k)=((p :: P).any fun q=>s q && (t q && fit q k)) from by simp only [Bool.and_assoc]]
   obtain ⟨N,eN⟩:∃ N:β→Bool,N=fun k=>(p :: P).any fun q=>s q && fit q k:=⟨_,rfl⟩
   have c2:HallC fit ((p :: P).filter fun q=>!s q) (K.filter fun k=>!N k):=fun t=>by
    have h0:=hH fun q=>s q || (!s q && t q)
    rw [countP_split] at h0
    have e2:(p :: P).countP (fun x=>!s x && (!s x && t x))=(p :: P).countP fun x=>t x && !s x:=List.countP_congr fun a _=>by cases s a<;>simp
    rw [e2] at h0
    rw [List.countP_filter,List.countP_filter]
    simp only [List.any_filter]
    have e3:(K.countP fun k=>(p :: P).any fun q=>(s q || (!s q && t q)) && fit q k)=K.countP fun k=>N k || ((p :: P).any fun q=>!s q && (t q && fit q k)):=List.countP_congr fun k _=>by
     rw [eN,← Bool.eq_iff_iff]
     simp only []
     rw [← any_or']
     congr 1
     funext q
     cases s q<;>simp
    rw [e3,countP_split] at h0
    rw [← eN] at hle
    have e4:(K.countP fun x=>!N x && ((p :: P).any fun q=>!s q && (t q && fit q x)))=K.countP fun a=>((p :: P).any fun x=>!s x && (t x && fit x a)) && !N a:=List.countP_congr fun a _=>by rw [Bool.and_comm]
    rw [e4] at h0
    omega
   have l0:((p :: P).filter s).length≤n:=by
    rw [List.filter_cons,if_neg (by simp [hs])]
    have:=List.length_filter_le s P
    simp at hl;omega
   have l1:((p :: P).filter fun q=>!s q).length≤n:=by
    rw [List.filter_cons,if_pos (by simp [hs])]
    have:(P.filter fun q=>!s q).length<P.length:=by
     rw [← List.countP_eq_length_filter]
     have h1:=List.length_eq_countP_add_countP (l:=P) s
     have h2:0<P.countP s:=List.countP_pos_iff.2 ⟨q0,hq0,hsq⟩
     have e:P.countP (fun q=>!s q)=P.countP (fun a=>decide ¬ s a=true):=List.countP_congr fun a _=>by cases s a<;>simp
     omega
    simp at hl ⊢;omega
   obtain ⟨m1,a1,b1⟩:=hall_aux fit n _ K l0 (hP.filter _) hK c1
   obtain ⟨m2,a2,b2⟩:=hall_aux fit n _ _ l1 (hP.filter _) (hK.filter _) c2
   refine ⟨fun q=>if s q=true then m1 q else m2 q,fun q hq=>?_,fun q hq r hr e=>?_⟩
   ·by_cases c:s q=true
    ·dsimp only;rw [if_pos c]
     exact a1 q (List.mem_filter.2 ⟨hq,c⟩)
    ·dsimp only;rw [if_neg c]
     have:=a2 q (List.mem_filter.2 ⟨hq,by simp [c]⟩)
     exact ⟨(List.mem_filter.1 this.1).1,this.2⟩
   ·have hN:∀ q ∈ p :: P,s q=true→N (m1 q)=true:=fun q hq c=>by
     rw [eN]
     exact List.any_eq_true.2 ⟨q,hq,by rw [c,(a1 q (List.mem_filter.2 ⟨hq,c⟩)).2];rfl⟩
    have hM:∀ q ∈ p :: P,¬ s q=true→N (m2 q)=false:=fun q hq c=>by
     have:=(List.mem_filter.1 (a2 q (List.mem_filter.2 ⟨hq,by simp [c]⟩)).1).2
     simpa using this
    simp only at e
    by_cases c:s q=true
    ·by_cases d:s r=true
     ·rw [if_pos c,if_pos d] at e
      exact b1 q (List.mem_filter.2 ⟨hq,c⟩) r (List.mem_filter.2 ⟨hr,d⟩) e
     ·rw [if_pos c,if_neg d] at e
      have h1:=hN q hq c
      rw [e,hM r hr d] at h1
      cases h1
    ·by_cases d:s r=true
     ·rw [if_neg c,if_pos d] at e
      have h1:=hN r hr d
      rw [← e,hM q hq c] at h1
      cases h1
     ·rw [if_neg c,if_neg d] at e
      exact b2 q (List.mem_filter.2 ⟨hq,by simp [c]⟩) r (List.mem_filter.2 ⟨hr,by simp [d]⟩) e
  ·-- no list is tight
   have h1:=hH fun q=>decide (q=p)
   have hpos:0<(p :: P).countP fun q=>decide (q=p):=List.countP_pos_iff.2 ⟨p,by simp,by simp⟩
   obtain ⟨k,hkK,hk⟩:=List.countP_pos_iff.1 (Nat.lt_of_lt_of_le hpos h1)
   obtain ⟨q,hq,hqk⟩:=List.any_eq_true.1 hk
   rw [Bool.and_eq_true,decide_eq_true_eq] at hqk
   obtain ⟨rfl,hfk⟩:=hqk
   have c1:HallC fit P (K.filter fun x=>decide (x ≠ k)):=fun t=>by
    by_cases ht:∃ r ∈ P,t r=true
    ·obtain ⟨r,hr,htr⟩:=ht
     have hs:¬ K.countP (fun k=>(q :: P).any fun x=>(t x && decide (x ≠ q)) && fit x k)≤(q :: P).countP fun x=>t x && decide (x ≠ q):=fun hle =>
      hA ⟨fun x=>t x && decide (x ≠ q),by simp,⟨r,hr,by dsimp only;rw [htr];simp;rintro rfl;exact hp hr⟩,hle⟩
     have e1:((q :: P).countP fun x=>t x && decide (x ≠ q))=P.countP t:=by
      rw [List.countP_cons_of_neg (by simp)]
      exact List.countP_congr fun a ha=>by simp;rintro _ rfl;exact hp ha
     have e2:(fun k=>(q :: P).any fun x=>(t x && decide (x ≠ q)) && fit x k)=fun k=>P.any fun x=>t x && fit x k:=by
      funext k
      rw [List.any_cons,show ((t q && decide (q ≠ q)) && fit q k)=false by simp,Bool.false_or]
      refine Bool.eq_iff_iff.2 ⟨fun h=>?_,fun h=>?_⟩
      ·obtain ⟨x,hx,hc⟩:=List.any_eq_true.1 h
       simp only [Bool.and_eq_true] at hc
       exact List.any_eq_true.2 ⟨x,hx,by rw [hc.1.1,hc.2];rfl⟩
      ·obtain ⟨x,hx,hc⟩:=List.any_eq_true.1 h
       simp only [Bool.and_eq_true] at hc
       exact List.any_eq_true.2 ⟨x,hx,by rw [hc.1,hc.2];simp;rintro rfl;exact hp hx⟩
     rw [e1,e2] at hs
     have:=countP_ne (s:=fun k=>P.any fun x=>t x && fit x k) (k:=k) hK
     omega
    ·have:P.countP t=0:=List.countP_eq_zero.2 fun r hr htr=>ht ⟨r,hr,htr⟩
     omega
   obtain ⟨m,a,b⟩:=hall_aux fit n P _ (by simpa using hl) hP' (hK.filter _) c1
   refine ⟨fun x=>if x=q then k else m x,fun x hx=>?_,fun x hx y hy e=>?_⟩
   ·by_cases c:x=q
    ·dsimp only;rw [if_pos c,c];exact ⟨hkK,hfk⟩
    ·dsimp only;rw [if_neg c]
     have:=a x ((List.mem_cons.1 hx).resolve_left c)
     exact ⟨(List.mem_filter.1 this.1).1,this.2⟩
   ·simp only at e
    have hm:∀ x ∈ q :: P,x ≠ q→m x ≠ k:=fun x hx c=>of_decide_eq_true (List.mem_filter.1 (a x ((List.mem_cons.1 hx).resolve_left c)).1).2
    by_cases c:x=q
    ·by_cases d:y=q
     ·rw [c,d]
     ·rw [if_pos c,if_neg d] at e
      exact absurd e.symm (hm y hy d)
    ·by_cases d:y=q
     ·rw [if_neg c,if_pos d] at e
      exact absurd e (hm x hx c)
     ·rw [if_neg c,if_neg d] at e
      exact b x ((List.mem_cons.1 hx).resolve_left c) y ((List.mem_cons.1 hy).resolve_left d) e
end
theorem hall {n:Nat} {fit:Nat→Nat→Bool} (h:∀ s:List Int,s.Sublist (upto n)→s.length≤((upto n).filter fun k=>s.any fun p=>fit p.toNat k.toNat).length):∃ o:List Int,o.length=n∧(∀ x ∈ o,0≤x∧x<(n:Int))∧o.Nodup∧∀ i,i<n→fit i (o.getD i 0).toNat=true:=by
 have hn:(upto n).Nodup:=(upto_sorted n).imp fun h=>by omega
 obtain ⟨m,h1,h2⟩:=hall_aux (fun p k:Int=>fit p.toNat k.toNat) n (upto n) (upto n) (by rw [upto_len];exact Nat.le_refl _) hn hn (fun s=>by
  have:=h _ (List.filter_sublist (p:=s) (l:=upto n))
  rw [← List.countP_eq_length_filter,← List.countP_eq_length_filter] at this
  simp only [List.any_filter] at this
  exact this)
 have hlen:((upto n).map m).length=n:=by rw [List.length_map,upto_len]
 refine ⟨(upto n).map m,hlen,fun x hx=>?_,?_,fun i hi=>?_⟩
 ·obtain ⟨p,hp,rfl⟩:=List.mem_map.1 hx
  exact upto_mem.1 (h1 p hp).1
 ·show ((upto n).map m).Pairwise _
  rw [List.pairwise_map]
  exact hn.imp_of_mem fun {a b} ha hb hab e=>hab (h2 a ha b hb e)
 ·have e:((upto n).map m).getD i 0=m (i:Int):=by
   rw [List.getD_eq_getElem?_getD,List.getElem?_map,show (upto n)[i]?=some (i:Int) by unfold upto lst;rw [List.getElem?_map,List.getElem?_range hi];rfl]
   rfl
  rw [e]
  have:=(h1 (i:Int) (upto_mem.2 (by omega))).2
  simpa using this
end Go.AM
namespace Go.AM
def topV (o pile:List Int):Int:=o.getD (pile.getLastD 0).toNat 0
def pilI (o:List Int) (ps:List (List Int)) (k:Int):Int:=idx (fun pile=>decide (topV o pile > k)) ps
def pilS (o:List Int) (ps:List (List Int)) (p:Nat):List (List Int) :=
 if pilI o ps (o.getD p 0)<0 then ps++[[(p:Int)]] else ps.set (pilI o ps (o.getD p 0)).toNat (ps.getD (pilI o ps (o.getD p 0)).toNat []++[(p:Int)])
def pilN (o:List Int):Nat→List (List Int)
 | 0=>[]
 | n+1=>pilS o (pilN o n) n
def PilR (o:List Int) (p q:Int):Prop:=p<q∧o.getD q.toNat 0<o.getD p.toNat 0
structure Pils (o:List Int) (n:Nat) (ps:List (List Int)):Prop where
 ne:∀ x ∈ ps,x ≠ []
 dn:∀ x ∈ ps,x.Pairwise (PilR o)
 all:ps.flatten.Perm (upto n)
 hd:∀ i j,i<j→j<ps.length→(ps.getD i []).headD 0<(ps.getD j []).headD 0
 ch:∀ i,i<ps.length→∀ p ∈ ps.getD i [],∃ l,RiseP o l∧l.length=i+1∧l.getLast?=some p
end Go.AM
namespace Go.AM
def mvL (o:List Int) (f t:Nat):List Int:=(o.eraseIdx f).insertIdx t (o.getD f 0)
theorem ins_eq {α:Type} {x:α}:∀ {l:List α} {t:Nat},t≤l.length→l.insertIdx t x=l.take t++x :: l.drop t
 | l,0,_=>by simp
 | [],t+1,h=>by simp at h
 | y :: l,t+1,h=>by
  rw [List.insertIdx_succ_cons,ins_eq (by simpa using h)];rfl
theorem mvL_eq {o:List Int} {f t:Nat} (hf:f<o.length) (ht:t<o.length):mvL o f t=(o.eraseIdx f).take t++o.getD f 0 :: (o.eraseIdx f).drop t :=
 ins_eq (by rw [List.length_eraseIdx_of_lt hf];omega)
theorem er_eq {o:List Int} {f:Nat} (hf:f<o.length):o=(o.eraseIdx f).take f++o.getD f 0 :: (o.eraseIdx f).drop f:=by
 rw [List.eraseIdx_eq_take_drop_succ]
 have hl:(o.take f).length=f:=by rw [List.length_take];omega
 rw [List.take_append_of_le_length (by omega),List.take_of_length_le (by omega),List.drop_append_of_le_length (by omega),List.drop_of_length_le (by omega),List.nil_append]
 conv=>lhs;rw [← List.take_append_drop f o]
 rw [List.drop_eq_getElem_cons hf,getD_at hf]
theorem mvL_len {o:List Int} {f t:Nat} (hf:f<o.length) (ht:t<o.length):(mvL o f t).length=o.length:=by
 have h1:=List.length_eraseIdx_of_lt hf
 rw [mvL_eq hf ht,List.length_append,List.length_cons,List.length_take,List.length_drop,h1]
 omega
theorem mvL_perm {o:List Int} {f t:Nat} (hf:f<o.length) (ht:t<o.length):(mvL o f t).Perm o:=by
 rw [mvL_eq hf ht]
 conv=>rhs;rw [er_eq hf]
 refine (List.perm_middle).trans (List.Perm.trans ?_ (List.perm_middle).symm)
 rw [List.take_append_drop,List.take_append_drop]
def makF (n:Nat):List (Int × Int)→List Int→List Int × Int
 | [],o=>(o,0)
 | m :: ms,o=>if (0≤m.1∧m.1<(n:Int))∧(0≤m.2∧m.2<(n:Int)) then makF n ms (mvL o m.1.toNat m.2.toNat) else ([],1)
def SubR (o s:List Int):Prop:=s.Sublist o∧s.Pairwise (·<·)
def lisN (o:List Int):Nat:=(riseL o).length
def mndT (rest kept:List Int) (k:Int):Nat→Nat
 | 0=>0
 | i+1=>if rest.getD i 0<k∧rest.getD i 0 ∈ kept then i+1 else mndT rest kept k i
structure MndS where
 o:List Int
 kept:List Int
 out:List (Int × Int)
def mndS (s:MndS) (k:Int):MndS :=
 if k ∈ s.kept then s else
 let f:=s.o.idxOf k
 let t:=mndT (s.o.eraseIdx f) s.kept k (s.o.eraseIdx f).length
 ⟨mvL s.o f t,s.kept++[k],if f=t then s.out else s.out++[((f:Int),(t:Int))]⟩
def mndN (s:MndS):Nat→MndS
 | 0=>s
 | k+1=>mndS (mndN s k) (k:Int)
def mndL (o:List Int):List (Int × Int):=(mndN ⟨o,(riseL o).map fun p=>o.getD p.toNat 0,[]⟩ o.length).out
structure MndI (n:Nat) (o0:List Int) (kept0:List Int) (k:Nat) (s:MndS):Prop where
 ord:Ord n s.o
 up:(s.o.filter fun x=>decide (x ∈ s.kept)).Pairwise (·<·)
 kept:∀ x,x ∈ s.kept ↔ x ∈ kept0 ∨ (0≤x∧x<(k:Int))
 rng:∀ m ∈ s.out,(0≤m.1∧m.1<(n:Int))∧(0≤m.2∧m.2<(n:Int))
 mak:makF n s.out o0=(s.o,0)
 few:s.out.length≤(upto k).countP fun x=>decide (x ∉ kept0)
end Go.AM
namespace Go.AM
def pickO {α:Type} (better:α→α→Bool) (p:α→Bool) (b:Option α) (x:α):Option α:=if (p x && b.all fun y=>better x y)=true then some x else b
def memS (n s:Nat):List Int:=(upto n).filter fun i=>s.testBit i.toNat
def btG (x y:List Int):Bool:=decide (y.length<x.length) || (decide (x.length=y.length) && lexB x y)
def btL (x y:List Int):Bool:=decide (x.length<y.length) || (decide (x.length=y.length) && lexB x y)
def setsR (n:Nat):Nat→List (List Int)
 | 0=>[]
 | k+1=>setsR n k++[memS n (k+1)]
end Go.AM
namespace Go.AM
def lexC (of:List Int):Nat→List Int→Nat→List (List Int)
 | 0,l,_=>[l]
 | d+1,l,a=>(List.range (of.length-a)).flatMap fun q=>lexC of d (l++[of.getD (a+q) 0]) (a+q+1)
def lexP (of:List Int) (d:Nat) (l:List Int) (a j:Nat):List (List Int):=(List.range j).flatMap fun q=>lexC of d (l++[of.getD (a+q) 0]) (a+q+1)
def visF (p:List Int→Bool):List (List Int)→Option (List Int)→Bool × Option (List Int)
 | [],o=>(false,o)
 | x :: xs,_=>if p x=true then (true,some x) else visF p xs (some x)
end Go.AM
namespace Go.AM
def allS (n:Nat):List (List Int):=(List.range (n+1)).flatMap fun m=>lexC (upto n) m [] 0
def risB (o l:List Int):Bool:=decide (l.Pairwise fun p q=>o.getD p.toNat 0<o.getD q.toNat 0)
def rseR (o:List Int):Nat→List Int
 | 0=>[]
 | s+1=>if (risB o (memS o.length s) && btG (memS o.length s) (rseR o s))=true then memS o.length s else rseR o s
def fittN (L:Lac) (l:List Int):Nat:=((upto L.C.length).filter fun k=>l.any fun p=>fitB L p.toNat k.toNat).length
def gapP (L:Lac) (l:List Int):Bool:=decide (fittN L l<l.length)
def gapO (L:Lac):Option (List Int):=if (visF (gapP L) (allS L.C.length) none).1=true then (visF (gapP L) (allS L.C.length) none).2 else none
def knwL (n:Nat) (os:List (List Int)):List Int:=lst (fun p=>if (os.all fun x=>decide (x.getD p 0=(os.headD []).getD p 0))=true then (os.headD []).getD p 0 else -1) n
def lvsN (n:Nat) (os:List (List Int)) (p:Nat):Int:=grt (lst (fun k=>(os.countP fun o=>decide (o.getD p 0=(k:Int)):Nat)) n)
def askN (n:Nat) (os:List (List Int)):Nat→Int × Int
 | 0=>(0,0)
 | p+1=>if p=0 ∨ lvsN n os p<(askN n os p).2 then ((p:Int),lvsN n os p) else askN n os p
def keyL (l o:List Int):List Int:=l.map fun p=>o.getD p.toNat 0
def dcdP (os:List (List Int)) (l:List Int):Bool:=decide ((os.map (keyL l)).Nodup)
def dcdL (n:Nat) (os:List (List Int)):List Int:=((visF (dcdP os) (allS n) none).2).getD []
def IsDec (n:Nat) (os:List (List Int)) (x:List Int):Prop:=x.Sublist (upto n)∧dcdP os x=true∧∀ y,y.Sublist (upto n)→dcdP os y=true→y=x ∨ btL x y=true
def dcdR (n:Nat) (os:List (List Int)):Nat→Option (List Int)
 | 0=>none
 | s+1=>if ((dcdR n os s).all (fun b=>btL (memS n s) b) && dcdP os (memS n s))=true then some (memS n s) else dcdR n os s
end Go.AM
namespace Go.AM
open Go.Proofs.Try
attribute [-go_sem] put_ne put_same
attribute [local go_sem ↓] put_if
abbrev evZ (g:AVal):ABlk:=⟨.cells [g] 74 false false,0⟩
theorem every_Z {base b:Nat} {h:Heap} {v g:AVal} {ts:List (List Int)} (p:List Int→Bool) (hb:base≤h.length) (h1:One g) (hA:AllI b h v ts) (hl:ts.length<2 ^ 60)
  (hg:∀ x t,t ∈ ts→OwnE encI 3 0 h x t→callL prog raw base g [x] (h++[evZ g])=some (.bool (p t),h++[evZ g])) :
  callL prog raw base (.fn 106 [] []) [v,g] h=some (.bool (ts.all p),h++[evZ g]):=by
 obtain ⟨vs,hO,hvl,hel⟩:=hA
 have hR:=hO.rows (by omega)
 obtain ⟨w,H,e,k,b,rfl,c1,c2⟩:=everyS_Z (base:=base) (A:=0) (pr:=fun _=>True) (J:=fun n H=>H=h++[evZ g]∧(ts.take n).all p=true) (S:=fun n H=>H=h++[evZ g]∧ts.all p=false) hb h1 (by omega) trivial (fun n H q=>q.1 ▸ hR.app)
  (fun n x H hx hH hJ=>by
   obtain ⟨rfl,hJ⟩:=hJ
   have hn:=(List.getElem?_eq_some_iff.1 hx).1
   have ht:ts[n]?=some ts[n]:=List.getElem?_eq_getElem (by omega)
   have ho:=hel n x _ hx ht
   rw [norm_one ho.one]
   exact ⟨_,_,hg x _ (List.getElem_mem _) ho,KeepP.refl,fun q=>⟨rfl,all_take ht hJ q⟩,fun q=>⟨rfl,all_no ht q⟩⟩)
  ⟨rfl,by simp⟩
 rw [e]
 cases b with
 | false=>obtain ⟨n,hn,rfl,q⟩:=c2 rfl;rw [q]
 | true =>
  obtain ⟨rfl,q⟩:=c1 rfl
  rw [hvl,List.take_length] at q
  rw [q]
theorem fnd_ord {L:Lac} {o:List Int} (h:o ∈ fnd L):Ord L.C.length o:=(fnd_mem.1 h).1
theorem ord_small {n:Nat} {o:List Int} (h:Ord n o) (hn:n≤1000):Small o:=⟨by have:=h.1;omega,fun x hx=>by have:=h.2.1 x hx;omega⟩
theorem fndE_ok {L:Lac} (h:(fndE L).2=0):chkL L=0∧fnd L ≠ []∧fndE L=(fnd L,0):=by
 unfold fndE at h ⊢
 by_cases c:chkL L=0
 ·rw [if_neg (by simp [c])] at h ⊢
  by_cases d:fnd L=[]
  ·rw [if_pos d] at h;cases h
  ·rw [if_neg d];exact ⟨c,d,rfl⟩
 ·rw [if_pos c] at h;exact absurd h c
theorem fndE_no {L:Lac} (h:(fndE L).2 ≠ 0):(fndE L).1=[]:=by
 unfold fndE at h ⊢
 by_cases c:chkL L=0
 ·rw [if_neg (by simp [c])] at h ⊢
  by_cases d:fnd L=[]
  ·rw [if_pos d]
  ·rw [if_neg d] at h;exact absurd rfl h
 ·rw [if_pos c]
def frsE (L:Lac):List Int × Int:=if (fndE L).2=0 then ((fnd L).headD [],0) else ([],(fndE L).2)
def cntE (L:Lac):Int × Int:=((fndE L).1.length,if (fndE L).2=7 then 0 else (fndE L).2)
def kwnE (L:Lac):List Int × Int:=if (fndE L).2=0 then (knwL L.C.length (fnd L),0) else ([],(fndE L).2)
theorem head_at {α:Type} {l:List (List α)} (h:l ≠ []):l[0]?=some (l.headD []):=by
 cases l with
 | nil=>exact absurd rfl h
 | cons a l=>rfl
theorem run_First {base:Nat} {h:Heap} {v:AVal} {L:Lac} (hb:base≤h.length) (hL:LacAt h v L) :
  Ret prog raw base (.fn 39 [] []) [v] h (fun w H=>Ext h H∧∃ x,w=.tuple [x,.int .i64 (frsE L).2]∧OwnE encI 3 h.length H x (frsE L).1):=by
 have hL0:=hL
 obtain ⟨cv,rv,rfl,hC,hR⟩:=hL
 have o1:=hC.one
 have o2:=hR.one
 obtain ⟨G0,eG0⟩:∃ G0,G0=h++[lacB L.T cv rv]:=⟨_,rfl⟩
 have x0:Ext h G0:=by rw [eG0];exact .app .refl
 have g0:G0[h.length]?=some (lacB L.T cv rv):=by rw [eG0];exact get_eq rfl
 have l0:G0.length=h.length+1:=by rw [eG0];simp
 obtain ⟨w1,H1,e1,x1,a,x,rfl,oa,hA,hD⟩:=run_found (base:=base) (h:=G0) (by omega) (hL0.ext x0)
 have ox:=hA.one
 have l1:=x1.len
 unfold lacB at eG0 g0
 by_cases c:(fndE L).2=0
 ·obtain ⟨c1,c2,c3⟩:=fndE_ok c
  have r:frsE L=((fnd L).headD [],0):=by unfold frsE;rw [if_pos c]
  rw [r]
  rw [c3] at hA e1
  obtain ⟨vs,q1,q2',q3⟩:=hA
  have q2:vs.length=(fnd L).length:=q2'
  have hpos:0<(fnd L).length:=by cases q:fnd L with|nil=>exact absurd q c2|cons a b=>simp
  have hv0:vs[0]?=some vs[0]:=List.getElem?_eq_getElem (by omega)
  have ho:=q3 0 _ _ hv0 (head_at c2)
  obtain ⟨y,ey⟩:∃ y,y=vs[0]'(by rw [q2];exact hpos):=⟨_,rfl⟩
  rw [← ey] at hv0 ho
  have hfew:=fnd_few (L:=L) (chkL_iff.1 c1).n.2
  have hRw:=q1.rows (show vs.length<2 ^ 60 by omega)
  have ad:=hRw.addr (P:=prog) (i:=((0:Nat):Int)) Fc.el54 Fc.ar54 (by omega) (by omega)
  have ld:loadP prog H1 25 (elAdr x 1 0 0)=some y:=hRw.cell (P:=prog) Fc.ty25 hv0 (o:=0) (a:=y) (by simp only [encZ,norm_one ho.one];rfl)
  rw [Int.toNat_natCast,Int.natCast_zero] at ad
  have oy:=ho.one
  have hz:encZ.z=1:=rfl
  rw [hz] at ad
  refine ret_raw func39 rfl (by kernel_rfl) ?_
  have hsp:=@Nat.succ_ne_zero;repeat' (first|simp (disch:=first|exact dqb|fail) only [go_sem,↓reduceIte,hsp,← eG0,g0,e1,eq_self,ad,ld]|refine WP_drw ?_|refine cnd_intro (fun hsp=>?_) fun hsp=>?_)
  exact ⟨x0.trans x1,_,rfl,ho.low (by omega)⟩
 ·have t0:((fndE L).2=0)=False:=eq_false c
  have r:frsE L=([],(fndE L).2):=by unfold frsE;rw [if_neg c]
  rw [r]
  refine ret_raw func39 rfl (by kernel_rfl) ?_
  have hsp:=@Nat.succ_ne_zero;repeat' (first|simp (disch:=first|exact dqb|fail) only [go_sem,↓reduceIte,hsp,← eG0,g0,e1,t0]|refine WP_drw ?_|refine cnd_intro (fun hsp=>?_) fun hsp=>?_)
  exact ⟨x0.trans x1,_,rfl,.inl Own.nil⟩
theorem run_Count {base:Nat} {h:Heap} {v:AVal} {L:Lac} (hL:LacAt h v L) :
  callL prog raw base (.fn 40 [] []) [v] h=some (.tuple [.int .i64 (cntE L).1,.int .i64 (cntE L).2],h):=by
 have hL0:=hL
 obtain ⟨cv,rv,rfl,hC,hR⟩:=hL
 have o1:=hC.one
 have o2:=hR.one
 obtain ⟨G0,eG0⟩:∃ G0,G0=h++[lacB L.T cv rv]:=⟨_,rfl⟩
 have x0:Ext h G0:=by rw [eG0];exact .app .refl
 have g0:G0[h.length]?=some (lacB L.T cv rv):=by rw [eG0];exact get_eq rfl
 have l0:G0.length=h.length+1:=by rw [eG0];simp
 obtain ⟨w1,H1,e1,x1,a,x,rfl,oa,hA,hD⟩:=run_found (base:=h.length) (h:=G0) (by omega) (hL0.ext x0)
 have ox:=hA.one
 have l1:=x1.len
 have hfew:(fndE L).1.length≤823543:=by
  by_cases c:(fndE L).2=0
  ·obtain ⟨c1,c2,c3⟩:=fndE_ok c
   rw [c3];exact fnd_few (chkL_iff.1 c1).n.2
  ·rw [fndE_no c];simp
 have hln:=hA.all.len (by omega)
 unfold lacB at eG0 g0
 refine callL_run func40 rfl rfl ?_
 by_cases c:(fndE L).2=7
 ·have t0:((fndE L).2=7)=True:=eq_true c
  have hsp:=@Nat.succ_ne_zero;repeat' (first|simp (disch:=first|exact dqb|fail) only [go_sem,↓reduceIte,hsp,← eG0,g0,e1,t0,hln]|refine WP_drw ?_|refine cnd_intro (fun hsp=>?_) fun hsp=>?_)
  refine fII rfl ?_ (x0.trans x1)
  unfold cntE
  rw [if_pos c]
 ·have t0:((fndE L).2=7)=False:=eq_false c
  have hsp:=@Nat.succ_ne_zero;repeat' (first|simp (disch:=first|exact dqb|fail) only [go_sem,↓reduceIte,hsp,← eG0,g0,e1,t0,hln]|refine WP_drw ?_|refine cnd_intro (fun hsp=>?_) fun hsp=>?_)
  refine fII rfl ?_ (x0.trans x1)
  unfold cntE
  rw [if_neg c]
end Go.AM
namespace Go.AM
open Go.Proofs.Try
def sortB (l:List Int):Bool:=decide (∀ i,i<l.length→0<i→l.getD (i-1) 0≤l.getD i 0)
theorem run_sorted {base:Nat} {h:Heap} {v:AVal} {l:List Int} (hI:Ints h v l):callL prog raw base (.fn 51 [] []) [v] h=some (.bool (sortB l),h):=by
 have hl:=hI.1.1
 refine callL_run func51 rfl rfl ?_
 have hsp:=@Nat.succ_ne_zero;repeat' (first|simp (disch:=first|exact dqb|fail) only [go_sem,hsp]|refine WP_drw ?_|refine cnd_intro (fun hsp=>?_) fun hsp=>?_)
 refine WP_loop (fun σ=>∃ c:Int,σ.fr 3=.int .i64 c∧σ.fr 0=v∧σ.h=h∧-1≤c∧c<l.length∧∀ i:Nat,c<i→i<l.length→l.getD (i-1) 0≤l.getD i 0) (fun σ=>match σ.fr 3 with|.int _ x=>(x+1).toNat|_=>0) ?_ ?_
 ·refine ⟨(l.length:Int)-1,?_,?_,rfl,by omega,by omega,fun i h1 h2=>by omega⟩
  ·simp (disch:=first|exact dqb|fail) only [go_sem]
  ·simp (disch:=first|exact dqb|fail) only [go_sem]
 ·rintro ⟨fr,hp⟩ ⟨c,r3,r0,rh,hc1,hc2,hP⟩
  dsimp only at r3 r0 rh
  subst rh
  by_cases hc:c > 0
  ·have hlt:(c > 0)=True:=eq_true hc
   obtain ⟨n,rfl⟩:=Int.eq_ofNat_of_zero_le (show 0≤c by omega)
   have e1:((n:Int)-1).toNat=n-1:=by omega
   by_cases hs:l.getD n 0<l.getD (n-1) 0
   ·have t2:(l.getD n 0<l.getD (n-1) 0)=True:=eq_true hs
    have hsp:=@Nat.succ_ne_zero;repeat' (first|simp (disch:=first|exact dqb|fail) only [go_sem,hsp,r3,r0,hlt,e1,t2]|refine WP_drw ?_|refine cnd_intro (fun hsp=>?_) fun hsp=>?_)
    refine fB (decide_eq_false fun hh=>?_).symm
    have:=hh n (by omega) (by omega)
    omega
   ·have t2:(l.getD n 0<l.getD (n-1) 0)=False:=eq_false hs
    have hsp:=@Nat.succ_ne_zero;repeat' (first|simp (disch:=first|exact dqb|fail) only [go_sem,hsp,r3,r0,hlt,e1,t2]|refine WP_drw ?_|refine cnd_intro (fun hsp=>?_) fun hsp=>?_)
    refine ⟨⟨(n:Int)-1,rfl,by omega,by omega,fun i h1 h2=>?_⟩,by omega⟩
    by_cases e:i=n
    ·subst e;omega
    ·exact hP i (by omega) h2
  ·have hlt:(c > 0)=False:=eq_false hc
   have hsp:=@Nat.succ_ne_zero;repeat' (first|simp (disch:=first|exact dqb|fail) only [go_sem,hsp,r3,r0,hlt]|refine WP_drw ?_|refine cnd_intro (fun hsp=>?_) fun hsp=>?_)
   exact fB (decide_eq_true fun i h1 h2=>hP i (by omega) h1).symm
attribute [go_sem] run_sorted
end Go.AM
namespace Go.AM
open Go.Proofs.Try
attribute [-go_sem] put_ne put_same
attribute [local go_sem ↓] put_if
theorem run_fit1 {base a b id p k:Nat} {h:Heap} {L:Lac} (ga:h[a]?=some (pB id)) (gb:h[b]?=some (nB (k:Int))) (hD:DskAt h id L) (hn:L.C.length≤7) (hp:p<L.C.length) (hk:k<L.C.length) :
  callL prog raw base (.fn 163 [] [.ptr (some ⟨a,0,0⟩),.ptr (some ⟨b,0,0⟩)]) [.int .i64 (p:Int)] h=some (.bool (fitB L p k),h):=by
 obtain ⟨cv,rv,hg,-,-⟩:=hD
 have la:=lt_of_get ga
 have lb:=lt_of_get gb
 have lid:=lt_of_get hg
 have ad1:=Fc.ad150 (id:=id) (ver:=0) (o:=3) (i:=(p:Int)) (by omega) (by omega)
 have ad2:=Fc.ad148 (id:=id) (ver:=0) (o:=3+p * 7) (i:=(k:Int)) (by omega) (by omega)
 rw [Int.toNat_natCast] at ad1 ad2
 rw [Nat.mul_one] at ad2
 have lb:=ld_dsk hg hn hp hk
 unfold pB at ga
 unfold nB at gb
 refine callL_run func163 rfl rfl ?_
 have hsp:=@Nat.succ_ne_zero;repeat' (first|simp (disch:=first|exact dqb|fail) only [go_sem,↓reduceIte,hsp,ga,gb,ad1,ad2,lb]|refine WP_drw ?_|refine cnd_intro (fun hsp=>?_) fun hsp=>?_)
 exact fB rfl
set_option maxHeartbeats 1000000 in
theorem run_fitting {base id:Nat} {h:Heap} {v:AVal} {L:Lac} {l:List Int} (hD:DskAt h id L) (hn:L.C.length≤7) (hI:Ints h v l) (hl:∀ x ∈ l,0≤x∧x<(L.C.length:Int)) :
  callL prog raw base (.fn 119 [] []) [.ptr (some ⟨id,0,0⟩),v] h=some (.int .i64 (fittN L l:Int),h):=by
 have hD0:=hD
 obtain ⟨cv,rv,hg,hC,hR⟩:=hD
 have lid:=lt_of_get hg
 have ov:=hI.one
 obtain ⟨G,eG⟩:∃ G,G=h++[pB id]:=⟨_,rfl⟩
 have xG:Ext h G:=by rw [eG];exact .app .refl
 have gp:G[h.length]?=some (pB id):=by rw [eG];exact get_eq rfl
 have lG:G.length=h.length+1:=by rw [eG];simp
 have lc:=ld_cards (xG.get hg)
 have hlc:=lenI (hC.ext xG)
 have gp':=gp
 unfold pB at eG gp'
 obtain ⟨f,ef⟩:∃ f:Int→Bool,f=fun k=>l.any fun p=>fitB L p.toNat k.toNat:=⟨_,rfl⟩
 refine callL_run func119 rfl rfl ?_
 have hsp:=@Nat.succ_ne_zero;repeat' (first|simp (disch:=first|exact dqb|fail) only [go_sem,↓reduceIte,hsp,← eG,gp',lc,hlc]|refine WP_drw ?_|refine cnd_intro (fun hsp=>?_) fun hsp=>?_)
 refine WP_count [(5,6),(13,21)] 0 L.C.length (Nat.zero_le _) (fun _ k fr H=>fr 13=.int .i64 (k:Int)∧Ext G H∧fr 5=.int .i64 ((((upto k).filter f).length:Nat):Int)) ?_ ?_ ?_
 ·exact ⟨by (simp (disch:=first|exact dqb|fail) only [go_sem,↓reduceIte,Int.natCast_zero];first|done|rfl),.refl,by simp (disch:=first|exact dqb|fail) only [go_sem,↓reduceIte];rfl⟩
 ·rintro k fr H hk0 hk hA ⟨r13,xH,r5⟩
  have q1:=hA 1 rfl
  have q2:=hA 2 rfl
  have q4:=hA 4 rfl
  have q12:=hA 12 rfl
  try simp (disch:=first|exact dqb|fail) only [go_sem,↓reduceIte] at q1 q2 q4 q12
  have hlt:((k:Int)<(L.C.length:Int))=True:=eq_true (by omega)
  have lH:=xH.len
  have hfl:((upto k).filter f).length≤k:=Nat.le_trans (List.length_filter_le _ _) (by rw [upto_len];omega)
  obtain ⟨K,eK⟩:∃ K,K=H++[nB (k:Int)]:=⟨_,rfl⟩
  have xK:Ext H K:=by rw [eK];exact .app .refl
  have gK:K[H.length]?=some (nB (k:Int)):=by rw [eK];exact get_eq rfl
  have xGK:=xH.trans xK
  have lK:=xGK.len
  have hany:=any_I (base:=h.length) (h:=K) (v:=v) (g:=.fn 163 [] [.ptr (some ⟨h.length,0,0⟩),.ptr (some ⟨H.length,0,0⟩)]) (l:=l) (fun p=>fitB L p.toNat k) (by omega) ⟨rfl,rfl,rfl⟩ (hI.ext (xG.trans xGK)) (fun x hx=>by
   have hx2:=hl x hx
   obtain ⟨p,rfl⟩:=Int.eq_ofNat_of_zero_le hx2.1
   exact run_fit1 (xGK.get gp) gK (hD0.ext (xG.trans xGK)) hn (by omega) hk)
  have hfk:l.any (fun p=>fitB L p.toNat k)=f (k:Int):=by rw [ef];simp only [Int.toNat_natCast]
  rw [hfk] at hany
  have hup:=upto_filt (f:=f) (k:=k)
  unfold nB at eK gK
  cases c:f (k:Int) with
  | true =>
   rw [c] at hany hup
   rw [if_pos rfl] at hup
   have hlen:(((upto k).filter f).length:Int)+1=((((upto (k+1)).filter f).length:Nat):Int):=by rw [hup];simp
   have hsp:=@Nat.succ_ne_zero;repeat' (first|simp (disch:=first|exact dqb|fail) only [go_sem,↓reduceIte,hsp,r13,r5,q1,q2,q4,q12,hlt,← eK,hany]|refine WP_drw ?_|refine cnd_intro (fun hsp=>?_) fun hsp=>?_)
   exact ⟨agq,by omega,xGK,hlen⟩
  | false =>
   rw [c] at hany hup
   rw [if_neg (by simp),List.append_nil] at hup
   have hsp:=@Nat.succ_ne_zero;repeat' (first|simp (disch:=first|exact dqb|fail) only [go_sem,↓reduceIte,hsp,r13,r5,q1,q2,q4,q12,hlt,← eK,hany]|refine WP_drw ?_|refine cnd_intro (fun hsp=>?_) fun hsp=>?_)
   exact ⟨agq,by omega,xGK,by rw [hup]⟩
 ·rintro fr H hA ⟨r13,xH,r5⟩
  have q1:=hA 1 rfl
  have q2:=hA 2 rfl
  have q4:=hA 4 rfl
  have q12:=hA 12 rfl
  try simp (disch:=first|exact dqb|fail) only [go_sem,↓reduceIte] at q1 q2 q4 q12
  have hlt:((L.C.length:Int)<(L.C.length:Int))=False:=eq_false (by omega)
  have hsp:=@Nat.succ_ne_zero;repeat' (first|simp (disch:=first|exact dqb|fail) only [go_sem,↓reduceIte,hsp,r13,r5,q1,q2,q4,q12,hlt]|refine WP_drw ?_|refine cnd_intro (fun hsp=>?_) fun hsp=>?_)
  refine fI ?_ (xG.trans xH)
  rw [ef];rfl
theorem run_pos {base:Nat} {h:Heap} {T x:Int} {cv rv:AVal} {l:List Int} (hC:Ints h cv l) (o2:One rv):callL prog raw base (.fn 113 [.agg [.int .i64 T,cv,rv]] []) [.int .i64 x] h=some (.bool (decide (0≤x∧x≤(l.length:Int)-1)),h):=by
 have o1:=hC.one
 have hb:=hC.1.1
 obtain ⟨G,eG⟩:∃ G,G=h++[lacB T cv rv]:=⟨_,rfl⟩
 have xG:Ext h G:=by rw [eG];exact .app .refl
 have g0:G[h.length]?=some (lacB T cv rv):=by rw [eG];exact get_eq rfl
 have hl:=lenI (hC.ext xG)
 unfold lacB at eG g0
 refine callL_run func113 rfl rfl ?_
 have hsp:=@Nat.succ_ne_zero;repeat' (first|simp (disch:=first|exact dqb|fail) only [go_sem,↓reduceIte,hsp,← eG,g0,hl]|refine WP_drw ?_|refine cnd_intro (fun hsp=>?_) fun hsp=>?_)
 exact fB rfl xG
def gpsE (L:Lac) (gap:List Int):Int × Int :=
 if chkL L ≠ 0 then (0,chkL L) else if ¬ (gap.all fun x=>decide (0≤x∧x≤(L.C.length:Int)-1))=true then (0,1) else if gap=[] ∨ sortB gap=false ∨ twB gap=true then (0,4) else
 if (gap.length:Int)-fittN L gap<1 then (0,6) else ((gap.length:Int)-fittN L gap,0)
set_option maxHeartbeats 2000000 in
theorem run_Gapes {base:Nat} {h:Heap} {v gv:AVal} {L:Lac} {gap:List Int} (hL:LacAt h v L) (hG:Ints h gv gap) :
  callL prog raw base (.fn 54 [] []) [v,gv] h=some (.tuple [.int .i64 (gpsE L gap).1,.int .i64 (gpsE L gap).2],h):=by
 have hL0:=hL
 obtain ⟨cv,rv,rfl,hC,hR⟩:=hL
 have o1:=hC.one
 have o2:=hR.one
 have o3:=hG.one
 have hgb:=hG.1.1
 obtain ⟨G0,eG0⟩:∃ G0,G0=h++[lacB L.T cv rv]:=⟨_,rfl⟩
 have x0:Ext h G0:=by rw [eG0];exact .app .refl
 have g0:G0[h.length]?=some (lacB L.T cv rv):=by rw [eG0];exact get_eq rfl
 have l0:G0.length=h.length+1:=by rw [eG0];simp
 obtain ⟨w1,H1,e1,x1,r1,r2⟩:=run_opened (base:=h.length) (h:=G0) (by omega) (hL0.ext x0)
 have l1:=x1.len
 have g1:=x1.get g0
 unfold lacB at eG0 g0 g1
 refine callL_run func54 rfl rfl ?_
 by_cases c0:chkL L=0
 ·obtain ⟨id,rfl,hid,hD⟩:=r2 c0
  have kn:=(chkL_iff.1 c0).n
  have xh:=x0.trans x1
  obtain ⟨H2,eH2⟩:∃ H2,H2=H1++[evB (.fn 113 [.agg [.int .i64 L.T,cv,rv]] [])]:=⟨_,rfl⟩
  have x2:Ext H1 H2:=by rw [eH2];exact .app .refl
  have xh2:=xh.trans x2
  have hev:=every_I (base:=h.length) (h:=H1) (v:=gv) (g:=.fn 113 [.agg [.int .i64 L.T,cv,rv]] []) (l:=gap) (fun x=>decide (0≤x∧x≤(L.C.length:Int)-1)) (by omega) ⟨rfl,rfl,rfl⟩ (hG.ext xh) (fun x _=>run_pos (hC.ext (xh.trans (.app .refl))) o2)
  rw [← eH2] at hev
  have hGl:=lenI (hG.ext xh2)
  have hst:=fun base=>run_sorted (base:=base) (hG.ext xh2)
  have htw:=fun base=>run_twice (base:=base) (hG.ext xh2)
  cases c1:gap.all (fun x=>decide (0≤x∧x≤(L.C.length:Int)-1)) with
  | false =>
   rw [c1] at hev
   have hsp:=@Nat.succ_ne_zero;repeat' (first|simp (disch:=first|exact dqb|fail) only [go_sem,↓reduceIte,hsp,← eG0,g0,e1,eq_self,g1,hev]|refine WP_drw ?_|refine cnd_intro (fun hsp=>?_) fun hsp=>?_)
   have r:gpsE L gap=(0,1):=by unfold gpsE;rw [if_neg (by simp [c0]),if_pos (by rw [c1];simp)]
   rw [r]
   exact fII rfl rfl xh2
  | true =>
   rw [c1] at hev
   have hin:∀ x ∈ gap,0≤x∧x<(L.C.length:Int):=fun x hx=>by have:=of_decide_eq_true (List.all_eq_true.1 c1 x hx);omega
   have hft:=fun base=>run_fitting (base:=base) (hD.ext x2) kn.2 (hG.ext xh2) hin
   have hfn:fittN L gap≤7:=Nat.le_trans (List.length_filter_le _ _) (by rw [upto_len];exact kn.2)
   have u1:¬ (¬ (gap.all fun x=>decide (0≤x∧x≤(L.C.length:Int)-1))=true):=by rw [c1];simp
   by_cases c2:gap=[]
   ·have t2:((gap.length:Int)=0)=True:=eq_true (by rw [c2];rfl)
    have hsp:=@Nat.succ_ne_zero;repeat' (first|simp (disch:=first|exact dqb|fail) only [go_sem,↓reduceIte,hsp,← eG0,g0,e1,eq_self,g1,hev,hGl,t2]|refine WP_drw ?_|refine cnd_intro (fun hsp=>?_) fun hsp=>?_)
    have r:gpsE L gap=(0,4):=by unfold gpsE;rw [if_neg (by simp [c0]),if_neg u1,if_pos (.inl c2)]
    rw [r]
    exact fII rfl rfl xh2
   ·have hgp:0<gap.length:=by cases q:gap with|nil=>exact absurd q c2|cons a b=>simp
    have t2:((gap.length:Int)=0)=False:=eq_false (by omega)
    cases c3:sortB gap with
    | false =>
     rw [c3] at hst
     have hsp:=@Nat.succ_ne_zero;repeat' (first|simp (disch:=first|exact dqb|fail) only [go_sem,↓reduceIte,hsp,← eG0,g0,e1,eq_self,g1,hev,hGl,t2,hst]|refine WP_drw ?_|refine cnd_intro (fun hsp=>?_) fun hsp=>?_)
     have r:gpsE L gap=(0,4):=by unfold gpsE;rw [if_neg (by simp [c0]),if_neg u1,if_pos (.inr (.inl c3))]
     rw [r]
     exact fII rfl rfl xh2
    | true =>
     rw [c3] at hst
     cases c4:twB gap with
     | true =>
      rw [c4] at htw
      have hsp:=@Nat.succ_ne_zero;repeat' (first|simp (disch:=first|exact dqb|fail) only [go_sem,↓reduceIte,hsp,← eG0,g0,e1,eq_self,g1,hev,hGl,t2,hst,htw]|refine WP_drw ?_|refine cnd_intro (fun hsp=>?_) fun hsp=>?_)
      have r:gpsE L gap=(0,4):=by unfold gpsE;rw [if_neg (by simp [c0]),if_neg u1,if_pos (.inr (.inr c4))]
      rw [r]
      exact fII rfl rfl xh2
     | false =>
      rw [c4] at htw
      have u2:¬ (gap=[] ∨ sortB gap=false ∨ twB gap=true):=by rw [c3,c4];simp [c2]
      by_cases c5:(gap.length:Int)-fittN L gap<1
      ·have t5:((gap.length:Int)-(fittN L gap:Int)<1)=True:=eq_true c5
       have hsp:=@Nat.succ_ne_zero;repeat' (first|simp (disch:=first|exact dqb|fail) only [go_sem,↓reduceIte,hsp,← eG0,g0,e1,eq_self,g1,hev,hGl,t2,hst,htw,hft,t5]|refine WP_drw ?_|refine cnd_intro (fun hsp=>?_) fun hsp=>?_)
       have r:gpsE L gap=(0,6):=by unfold gpsE;rw [if_neg (by simp [c0]),if_neg u1,if_neg u2,if_pos c5]
       rw [r]
       exact fII rfl rfl xh2
      ·have t5:((gap.length:Int)-(fittN L gap:Int)<1)=False:=eq_false c5
       have hsp:=@Nat.succ_ne_zero;repeat' (first|simp (disch:=first|exact dqb|fail) only [go_sem,↓reduceIte,hsp,← eG0,g0,e1,eq_self,g1,hev,hGl,t2,hst,htw,hft,t5]|refine WP_drw ?_|refine cnd_intro (fun hsp=>?_) fun hsp=>?_)
       have r:gpsE L gap=((gap.length:Int)-fittN L gap,0):=by unfold gpsE;rw [if_neg (by simp [c0]),if_neg u1,if_neg u2,if_neg c5]
       rw [r]
       exact fII rfl rfl xh2
 ·have t0:(chkL L=0)=False:=eq_false c0
  have r:=r1 c0
  subst r
  have hsp:=@Nat.succ_ne_zero;repeat' (first|simp (disch:=first|exact dqb|fail) only [go_sem,↓reduceIte,hsp,← eG0,g0,e1,t0,g1]|refine WP_drw ?_|refine cnd_intro (fun hsp=>?_) fun hsp=>?_)
  have re:gpsE L gap=(0,chkL L):=by unfold gpsE;rw [if_pos c0]
  rw [re]
  exact fII rfl rfl (x0.trans x1)
end Go.AM
namespace Go.AM
open Go.Proofs.Try
def Off (X:List Nat) (v:AVal):Prop:=∀ r n c,v=.slice (some r) n c→r.id ∉ X
def KeepX (ob:Nat) (H H':Heap):Prop:=H.length≤H'.length∧∀ i b,i ≠ ob→H[i]?=some b→H'[i]?=some b
section
variable {ob:Nat} {H H' H2 h:Heap}
end
end Go.AM
namespace Go.AM
open Go.Proofs.Try
attribute [-go_sem] put_ne put_same
attribute [local go_sem ↓] put_if
def mrV (M O S D R:Nat):AVal:=.fn 161 [] [.ptr (some ⟨M,0,0⟩),.ptr (some ⟨O,0,0⟩),.ptr (some ⟨S,0,0⟩),.ptr (some ⟨D,0,0⟩),.ptr (some ⟨R,0,0⟩)]
abbrev mrB (f:AVal):ABlk:=⟨.cells [f] 73 false false,0⟩
structure FrsAt (h H:Heap) (M O S D R many id:Nat) (g:AVal):Prop where
 ext:Ext h H
 ne:M ≠ O∧S ≠ O∧D ≠ O∧R ≠ O
 m:H[M]?=some (nB (many:Int))
 s:H[S]?=some (fnB g)
 d:H[D]?=some (pB id)
 r:H[R]?=some (mrB (mrV M O S D R))
def OutI (O:Nat) (o:Option (List Int)) (H:Heap):Prop:=∃ v,H[O]?=some (lB v)∧match o with|none=>v=.slice none 0 0|some l=>Own encI 3 (O+1) H v l
section
variable {base M O S D R many id:Nat} {h:Heap} {g:AVal} {L:Lac} {p:List Int→Bool}
end
end Go.AM
namespace Go.AM
open Go.Proofs.Try
attribute [-go_sem] put_ne put_same
attribute [local go_sem ↓] put_if
def preS (n i:Nat):List (List Int):=(List.range i).flatMap fun m=>lexC (upto n) m [] 0
theorem preS_all {n:Nat}:preS n (n+1)=allS n:=rfl
def ResI (b:Nat) (o:Option (List Int)) (H:Heap) (x:AVal):Prop:=match o with|none=>x=.slice none 0 0|some l=>Own encI 3 b H x l
end Go.AM
namespace Go.AM
open Go.Proofs.Try
attribute [-go_sem] put_ne put_same
attribute [local go_sem ↓] put_if
def gapE (L:Lac):Int:=if chkL L=0 then (if gapO L=none then 6 else 0) else chkL L
end Go.AM
namespace Go.AM
open Go.Proofs.Try
attribute [-go_sem] put_ne put_same
attribute [local go_sem ↓] put_if
def mpK (ks:List (List Int)):List (AVal × AVal):=ks.map fun k=>(.agg (ints k),.bool true)
end Go.AM
