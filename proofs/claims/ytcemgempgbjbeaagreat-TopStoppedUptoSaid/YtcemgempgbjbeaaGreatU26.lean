/-
  TopStopped: the loom that is made of a mill and of sights, step by step.
-/
import Derived.Test.YtcemgempgbjbeaaGreatU25
set_option linter.unusedSimpArgs false
set_option linter.unusedVariables false
namespace Go.AM
namespace F4
open Go.Proofs.Tryz
attribute [-go_sem] put_ne put_same
attribute [local go_sem ↓] put_if
theorem own_append1A {b base:Nat} {H:Heap} {v:AVal} {l:List Int} {y:Int} (hO:Own encI 3 b H v l) (hb:base≤b) (hbh:b≤H.length) (hsz:l.length+1<2147483648) :
  ∃ v' H',appendA prog base H 35 v (.vals [.int .i64 y])=some (v',H')∧Own encI 3 b H' v' (l++[y])∧H.length≤H'.length∧(∀ G,G.length≤b→Ext G H→Ext G H')∧One v'∧KeepO encI 3 H H'∧∀ {b2:Nat} {w:AVal} {l2:List Int},Own encI 3 b2 H w l2→Asun v w→Own encI 3 b2 H' w l2∧Asun v' w:=by
 have ea:=app_sn1 (P:=prog) (y:=y) (a:=.int .i64 y) (base:=base) (t:=35) hO rfl rfl Fc.el35 encI_sc hb hsz
 refine ⟨_,_,ea,hO.sn (m:=[y]) hbh (by simp),snH_len,fun G hG g=>hO.sn_ext hG g,snV_one,?_,fun {b2 w l2} h1 h2=>⟨h1.sn_oth h2,h1.sn_asun h2⟩⟩
 rcases hO with ⟨rfl,rfl⟩|⟨id,ver,rfl,h1,h2,h3⟩
 ·intro j z g _;exact get_app g
 ·intro j z g hz
  have hne:id ≠ j:=by
   rintro rfl
   rw [h1] at g
   exact hz l ver (Option.some.inj g).symm
  show (H.set id _)[j]?=_
  rw [List.getElem?_set_ne hne];exact g
theorem asun_low {b b2:Nat} {h H:Heap} {v w:AVal} {l l2:List Int} {e:TypeId} (hv:Own encI e b h v l) (hw:Own encI e b2 H w l2) (hb:h.length≤b2):Asun v w:=by
 intro r n c s k d e1 e2 q
 have:=hv.lowid r n c e1
 rcases hw with ⟨rfl,_⟩|⟨id,ver,rfl,_,h2,_⟩
 ·cases e2
 ·simp only [AVal.slice.injEq,Option.some.injEq] at e2
  rw [← e2.1] at q
  simp only at q
  omega
def ptB (rv:AVal):ABlk:=⟨.cells [rv,.int .i64 1,.int .i64 0,.bool false] 58 false false,0⟩
def RbI (P:Pwr) (J:Heap) (i k:Nat) (X:Heap) (rv:AVal):Prop:=(Ext J X∧J.length+1≤X.length)∧X[J.length]?=some (ptB rv)∧Own encI 3 (J.length+1) X rv ((upto k).filter fun k=>drv P (i:Int) k.toNat)
def lkB (P:Pwr) (pv sgv:AVal):ABlk:=⟨.cells [.int .i64 (P.K.length:Int),.int .i64 1,pv,sgv] 62 false false,0⟩
def shfJ (P:Pwr) (i:Nat):List Int:=(upto i).filter fun s=>decide (0<(ribO P s).length)
def MkI (P:Pwr) (E0:Heap) (i:Nat) (K:Heap) (pv sl:AVal) (vs:List PrtV):Prop :=
 (Ext E0 K∧E0.length+1≤K.length)∧K[E0.length]?=some (lkB P pv (.slice none 0 0))∧Own encP 58 (E0.length+1) K pv vs∧Own encI 3 (E0.length+1) K sl (shfJ P i)∧vs.length=(shfJ P i).length ∧
  ∀ (j:Nat) x s,vs[j]?=some x→(shfJ P i)[j]?=some s→(x.each=1∧x.ph=0∧x.wv=false)∧Own encI 3 (E0.length+1) K x.v (ribO P s)∧Asun sl x.v
section
variable {P:Pwr} {E0 K H:Heap} {i:Nat} {pv sl:AVal} {vs:List PrtV}
theorem MkI.ext (x:MkI P E0 i K pv sl vs) (e:Ext K H):MkI P E0 i H pv sl vs:=by
 obtain ⟨⟨a,b⟩,c,d,f,g,q⟩:=x
 have:=e.len
 exact ⟨⟨a.trans e,by omega⟩,e.get c,d.ext e,f.ext e,g,fun j x s h1 h2=>by obtain ⟨u,v,w⟩:=q j x s h1 h2;exact ⟨u,v.ext e,w⟩⟩
theorem MkI.skip (x:MkI P E0 i K pv sl vs) (hz:¬ 0<(ribO P (i:Int)).length):MkI P E0 (i+1) K pv sl vs:=by
 have e:shfJ P (i+1)=shfJ P i:=by
  unfold shfJ
  rw [upto_one,if_neg (by rw [decide_eq_true_eq];exact hz),List.append_nil]
 unfold MkI at x ⊢
 rw [e]
 exact x
theorem shfJ_len {n:Nat}:(shfJ P n).length≤n:=upto_flen
theorem MkI.next {base b2:Nat} {rv:AVal} (x:MkI P E0 i K pv sl vs) (hb:base≤E0.length) (hr:Own encI 3 b2 K rv (ribO P (i:Int))) (hb2:E0.length+1≤b2) (hA:Asun sl rv) (hpos:0<(ribO P (i:Int)).length) (hi:i≤100) :
  ∃ w' H6 sl' H7,appendA prog base (K++[rowE encP 58 [⟨rv,1,0,false⟩] 0]) 59 pv (.slice (some ⟨K.length,0,0⟩) 1 1)=some (w',H6)∧appendA prog base H6 35 sl (.vals [.int .i64 (i:Int)])=some (sl',H7) ∧
   H6[E0.length]?=some (lkB P pv (.slice none 0 0))∧H7[E0.length]?=some (lkB P pv (.slice none 0 0))∧One w'∧One sl'∧E0.length+1≤H7.length∧MkI P E0 (i+1) (H7.set E0.length (lkB P w' (.slice none 0 0))) w' sl' (vs++[⟨rv,1,0,false⟩]):=by
 obtain ⟨⟨a,b⟩,c,d,f,g,q⟩:=x
 have hl:=shfJ_len (P:=P) (n:=i)
 obtain ⟨w',H6,e1,o1,l1,x1,n1,k1⟩:=snocG (base:=base) (t:=59) (r:=(⟨rv,1,0,false⟩:PrtV)) Fc.el59 encP_sc d (by omega) b (by omega)
 have f6:=k1.own f (by decide)
 have r6:=k1.own hr (by decide)
 have c6:=k1.box c
 obtain ⟨sl',H7,e2,o2,l2,x2,n2,k2,k3⟩:=own_append1A (base:=base) (y:=(i:Int)) f6 (by omega) (by omega) (by omega)
 have c7:=k2.box c6
 have o7:=k2.own o1 (by decide)
 have es:shfJ P (i+1)=shfJ P i++[(i:Int)]:=by
  unfold shfJ
  rw [upto_one,if_pos (decide_eq_true hpos)]
 refine ⟨w',H6,sl',H7,e1,e2,c6,c7,n1,n2,by omega,⟨(x2 _ (by omega) (x1 _ (by omega) a)).set (Nat.le_refl _),by rw [List.length_set];omega⟩,by rw [List.getElem?_set_self (lt_of_get c7)],o7.setBox c7,by rw [es];exact o2.setBox c7,by rw [es];simp [g],fun j y s h1 h2=>?_⟩
 rw [es] at h2
 by_cases hj:j<vs.length
 ·rw [List.getElem?_append_left hj] at h1
  rw [List.getElem?_append_left (by omega)] at h2
  obtain ⟨u1,u2,u3⟩:=q j y s h1 h2
  obtain ⟨m1,m2⟩:=k3 (k1.own u2 (by decide)) u3
  exact ⟨u1,m1.setBox c7,m2⟩
 ·have hj1:=(List.getElem?_eq_some_iff.1 h1).1
  simp only [List.length_append,List.length_cons,List.length_nil] at hj1
  have ej:j=vs.length:=by omega
  subst ej
  rw [List.getElem?_append_right (Nat.le_refl _),Nat.sub_self] at h1
  rw [List.getElem?_append_right (by omega),g,Nat.sub_self] at h2
  simp only [List.getElem?_cons_zero,Option.some.injEq] at h1 h2
  subst h1 h2
  obtain ⟨m1,m2⟩:=k3 r6 hA
  exact ⟨⟨rfl,rfl,rfl⟩,(m1.setBox c7).low hb2,m2⟩
end
def wvJ (S:List Int) (k:Nat):List Int:=(upto k).filter fun k=>decide (S.getD k.toNat 0 ≠ 0)
def sgJ (S:List Int) (k:Nat):List Sgt:=(wvJ S k).map fun k=>⟨k,0,0,decide (S.getD k.toNat 0=2)⟩
def SgI (P:Pwr) (S:List Int) (E:Heap) (lb:Nat) (pv:AVal) (k:Nat) (F:Heap) (sgv wl:AVal):Prop :=
 (lb<E.length∧Ext (E.set lb (lkB P pv sgv)) F)∧Own encS 113 E.length F sgv (sgJ S k)∧Own encI 3 E.length F wl (wvJ S k)
theorem ext_set2 {A B:Heap} {i:Nat} {x y:ABlk} (hi:i<A.length) (e:Ext (A.set i x) B):Ext (A.set i y) (B.set i y):=by
 obtain ⟨t,rfl⟩:=e
 refine ⟨t,?_⟩
 rw [List.set_append_left _ _ (by rw [List.length_set];exact hi),List.set_set]
section
variable {P:Pwr} {S:List Int} {E F H:Heap} {lb k:Nat} {pv sgv wl:AVal}
theorem SgI.at (x:SgI P S E lb pv k F sgv wl):F[lb]?=some (lkB P pv sgv):=x.1.2.get (by rw [List.getElem?_set_self x.1.1])
theorem SgI.len (x:SgI P S E lb pv k F sgv wl):E.length≤F.length:=by have:=x.1.2.len;rwa [List.length_set] at this
theorem SgI.skip (x:SgI P S E lb pv k F sgv wl) (hz:S.getD k 0=0):SgI P S E lb pv (k+1) F sgv wl:=by
 have e:wvJ S (k+1)=wvJ S k:=by
  unfold wvJ
  rw [upto_one,if_neg (by rw [decide_eq_true_eq,Int.toNat_natCast];exact fun q=>q hz),List.append_nil]
 unfold SgI sgJ at x ⊢
 rw [e]
 exact x
theorem SgI.next {base:Nat} (x:SgI P S E lb pv k F sgv wl) (hb:base≤E.length) (hz:S.getD k 0 ≠ 0) (hk:k≤100) :
  ∃ w' H6 wl' H7,appendA prog base (F++[rowE encS 113 [⟨(k:Int),0,0,decide (S.getD k 0=2)⟩] 0]) 60 sgv (.slice (some ⟨F.length,0,0⟩) 1 1)=some (w',H6)∧appendA prog base H6 35 wl (.vals [.int .i64 (k:Int)])=some (wl',H7) ∧
   H6[lb]?=some (lkB P pv sgv)∧H7[lb]?=some (lkB P pv sgv)∧One w'∧One wl'∧E.length≤H7.length∧SgI P S E lb pv (k+1) (H7.set lb (lkB P pv w')) w' wl':=by
 have c:=x.at
 have hF:=x.len
 obtain ⟨⟨a,b⟩,d,f⟩:=x
 have hl:(wvJ S k).length≤k:=upto_flen
 have hl2:(sgJ S k).length≤k:=by unfold sgJ;rw [List.length_map];exact hl
 obtain ⟨w',H6,e1,o1,l1,x1,n1,k1⟩:=snocG (base:=base) (t:=60) (r:=(⟨(k:Int),0,0,decide (S.getD k 0=2)⟩:Sgt)) Fc.el60 encS_sc d hb hF (by omega)
 have f6:=k1.own f (by decide)
 have c6:=k1.box c
 obtain ⟨wl',H7,e2,o2,l2,x2,n2,k2,_⟩:=own_append1A (base:=base) (y:=(k:Int)) f6 hb (by omega) (by omega)
 have c7:=k2.box c6
 have o7:=k2.own o1 (by decide)
 have es:wvJ S (k+1)=wvJ S k++[(k:Int)]:=by
  unfold wvJ
  rw [upto_one,if_pos (by rw [decide_eq_true_eq,Int.toNat_natCast];exact hz)]
 have es2:sgJ S (k+1)=sgJ S k++[⟨(k:Int),0,0,decide (S.getD k 0=2)⟩]:=by
  unfold sgJ
  rw [es,List.map_append]
  rfl
 refine ⟨w',H6,wl',H7,e1,e2,c6,c7,n1,n2,by omega,⟨a,ext_set2 a (x2 _ (by rw [List.length_set];exact Nat.le_refl _) (x1 _ (by rw [List.length_set];exact Nat.le_refl _) b))⟩,by rw [es2];exact o7.setBox c7,by rw [es];exact o2.setBox c7⟩
end
theorem bsFP {lit:Bool} {H:Heap} {rv:AVal} (ho:One rv):bsA prog lit H 59 1 [(0,.agg [rv,.int .i64 1,.int .i64 0,.bool false])]=some (.slice (some ⟨H.length,0,0⟩) 1 1,H++[rowE encP 58 [⟨rv,1,0,false⟩] 0]):=by
 have e:norm rv=rv:=norm_one ho
 have hc:rv.cells=[rv]:=ho.2.1
 simp [bsA,rowOf,Fc.el59,fillA,repCells,AVal.isN,AVal.cells,splice,rowE,flat,encP,e]
theorem bsFS {lit:Bool} {H:Heap} {k:Int} {b:Bool}:bsA prog lit H 60 1 [(0,.agg [.int .i64 k,.int .i64 0,.int .i64 0,.bool b])]=some (.slice (some ⟨H.length,0,0⟩) 1 1,H++[rowE encS 113 [⟨k,0,0,b⟩] 0]):=by
 simp [bsA,rowOf,Fc.el60,fillA,repCells,AVal.isN,AVal.cells,splice,rowE,flat,encS]
theorem bsFB {lit:Bool} {H:Heap} {p:Int}:bsA prog lit H 116 1 [(0,.agg [.int .i64 p,.int .i64 0,.int .i64 0])]=some (.slice (some ⟨H.length,0,0⟩) 1 1,H++[rowE encB 67 [(p,0,0)] 0]):=by
 simp [bsA,rowOf,Fc.el116,fillA,repCells,AVal.isN,AVal.cells,splice,rowE,flat,encB]
theorem lom_at {P:Pwr} {S:List Int} {E0 E F:Heap} {pv sl sgv wl:AVal} {vs:List PrtV} (hM:MOkS P S) (mk:MkI P E0 P.U.length E pv sl vs) (sg:SgI P S E E0.length pv S.length F sgv wl) :
  LomAt F (.agg [.int .i64 (P.K.length:Int),.int .i64 1,pv,sgv]) (lomO P S)∧Ints F sl (shfO P)∧Ints F wl (wvrO S)∧Ext E0 F:=by
 have ok:=hM.ok
 have b1:=ok.n
 have b2:=ok.k
 have b3:=hM.len
 obtain ⟨⟨a,b⟩,c,d,f,g,q⟩:=mk
 obtain ⟨⟨u1,u2⟩,u3,u4⟩:=sg
 have hl:(shfO P).length≤P.U.length:=shfJ_len (P:=P) (n:=P.U.length)
 have hw:(wvrO S).length≤S.length:=upto_flen
 have f2:=(f.set (k:=lkB P pv sgv) (Nat.lt_succ_self E0.length)).ext u2
 have d2:=(d.set (k:=lkB P pv sgv) (Nat.lt_succ_self E0.length)).ext u2
 have g:vs.length=(shfO P).length:=g
 have u3:Own encS 113 E.length F sgv (lomO P S).ss:=u3
 refine ⟨⟨pv,sgv,rfl,⟨vs,d2.rows (by omega),by rw [lom_ps];exact g,fun j x p h1 h2=>?_⟩,u3.rows (by rw [lom_ss];omega)⟩,own_ints f2 ⟨by show (shfO P).length<_;omega,fun y hy=>?_⟩,own_ints u4 ⟨by show (wvrO S).length<_;omega,fun y hy=>?_⟩,(a.set (Nat.le_refl _)).trans u2⟩
 ·have h2:((shfO P).map fun s=>(⟨ribO P s,1,0,false⟩:Prt))[j]?=some p:=h2
  rw [List.getElem?_map] at h2
  cases e:(shfO P)[j]? with
  | none=>rw [e] at h2;cases h2
  | some s =>
   rw [e] at h2
   obtain rfl:=Option.some.inj h2
   obtain ⟨m1,m2,_⟩:=q j x s h1 e
   have hr:(ribO P s).length≤P.K.length:=upto_flen
   refine ⟨own_ints ((m2.set (k:=lkB P pv sgv) (Nat.lt_succ_self E0.length)).ext u2) ⟨by show (ribO P s).length<_;omega,fun y hy=>?_⟩,m1⟩
   have:=(ribO_mem.1 hy).1
   omega
 ·have hy:y ∈ (upto P.U.length).filter fun s=>decide (0<(ribO P s).length):=hy
  have:=upto_mem.1 (List.mem_filter.1 hy).1
  omega
 ·have:=(wvrO_mem.1 hy).1
  omega
end F4
end Go.AM
namespace Go.AM
namespace F4
open Go.Proofs.Tryz
attribute [-go_sem] put_ne put_same
attribute [local go_sem ↓] put_if
theorem rows_lowR {α:Type} {E:Enc α} {h:Heap} {v:AVal} {l:List α} (hR:Rows E h v l):refsLow h.length v:=by
 have:=rows_lowid2 hR
 rcases hR.2 with ⟨rfl,_⟩|⟨rfl,_⟩|⟨r,k,c,e,row,ro,rfl,_⟩
 ·exact refsLow_nil
 ·simp [refsLow,AVal.refs]
 ·exact refsLow_slice (this _ _ _ rfl)
theorem wrp8 {y:Int} (h:0≤y∧y≤255):IntKind.u8.wrap y=y:=by
 simp [IntKind.wrap,IntKind.signed,IntKind.bits]
 omega
theorem cv8I {x:Int} (hx:0≤x∧x≤255):convA prog 3 5 (.int .u8 x)=some (.int .i64 x):=by
 have h:convA prog 3 5 (.int .u8 x)=some (.int .i64 (IntKind.i64.wrap x)):=by kernel_rfl
 rw [h,wrap64 (by omega) (by omega)]
theorem cv8S {x:Int} (hx:0≤x∧x≤255):convA prog 108 5 (.int .u8 x)=some (.int .i64 x):=by
 have h:convA prog 108 5 (.int .u8 x)=some (.int .i64 (IntKind.i64.wrap x)):=by kernel_rfl
 rw [h,wrap64 (by omega) (by omega)]
theorem excM_len {L:Lom} {k:Int}:(excM L k).1.length≤L.T.toNat:=by
 unfold excM
 split
 ·simp
 ·split
  ·simp
  ·exact numsN_len
def outJ (P:Pwr) (S:List Int) (p:Nat):List Int:=((shfO P).take p).filter (clrB P S)
theorem outJ_succ {P:Pwr} {S:List Int} {p:Nat} (h:p<(shfO P).length):outJ P S (p+1)=outJ P S p++(if clrB P S ((shfO P).getD p 0)=true then [(shfO P).getD p 0] else []):=by
 unfold outJ
 have e:(shfO P).take (p+1)=(shfO P).take p++[(shfO P).getD p 0]:=by
  rw [List.take_add_one,List.getElem?_eq_getElem h,List.getD_eq_getElem?_getD,List.getElem?_eq_getElem h]
  rfl
 rw [e,List.filter_append]
 congr 1
 simp only [List.filter_cons,List.filter_nil]
theorem outJ_len {P:Pwr} {S:List Int} {p:Nat}:(outJ P S p).length≤(shfO P).length:=by
 unfold outJ
 have a:=(List.filter_sublist (p:=clrB P S) (l:=(shfO P).take p)).length_le
 rw [List.length_take] at a
 omega
def bkJ (P:Pwr) (l:List Int) (p:Nat):List Brk:=((upto p).filter fun p=>decide ((shfO P).getD p.toNat 0 ∈ l)).map fun p=>(p,0,0)
theorem bkJ_succ {P:Pwr} {l:List Int} {p:Nat}:bkJ P l (p+1)=bkJ P l p++(if (shfO P).getD p 0 ∈ l then [((p:Int),0,0)] else []):=by
 unfold bkJ
 rw [upto_one,List.map_append,Int.toNat_natCast]
 by_cases c:(shfO P).getD p 0 ∈ l
 ·rw [if_pos (decide_eq_true c),if_pos c];rfl
 ·rw [if_neg (by rw [decide_eq_true_eq];exact c),if_neg c];rfl
theorem stQ66a {base:Nat} {l:List Oper} {s:St} {Q:AExit→St→Prop}:WP prog raw base (.region 5 l.toArray true) s Q=WPS prog raw base (.region 5 l.toArray true) s Q:=WP_stop
attribute [local go_sem ↓ 3000] stQ66a
theorem stQ66b {base:Nat} {l:List Oper} {s:St} {Q:AExit→St→Prop}:WP prog raw base (.region 6 l.toArray false) s Q=WPS prog raw base (.region 6 l.toArray false) s Q:=WP_stop
attribute [local go_sem ↓ 3000] stQ66b
set_option maxRecDepth 100000 in
set_option maxHeartbeats 8000000 in
theorem run_TopStopped {base:Nat} {h:Heap} {v0 v1:AVal} {l0 l1:List Int} {x2:Int} (hB0:Bytes h v0 l0) (hB1:Bytes h v1 l1) (hx2:0≤x2∧x2≤255) :
  callL prog raw base (.fn 6 [] []) [v0,v1,.int .u8 x2] h=some (.bool true,h):=by
 have hw0:=run_wound (base:=h.length) hB0
 have hS0:SpAt (h++[spB v0 l0 0]) h.length v0 l0 0:=SpAt.new hB0 rfl
 obtain ⟨w1,H1,e1,P,k1,pw,ok,hk1,y1⟩:=run_pMade (base:=h.length) (A:=6) (B:=6) (by simp) hS0 (by omega) (by omega) (by omega)
 have x1:Ext h H1:=y1.old'
 have l1H:=x1.len
 obtain ⟨sv,wv,rfl,hP,hW⟩:=id pw
 have os:=hP.one
 have ow:=hW.one
 have b1:=ok.n
 have b2:=ok.k
 obtain ⟨H2,eH2⟩:∃ H2,H2=H1++[pwB sv wv]:=⟨_,rfl⟩
 have x2e:Ext H1 H2:=by rw [eH2];exact .app .refl
 have l2:H2.length=H1.length+1:=by rw [eH2];simp
 have g2:H2[H1.length]?=some (pwB sv wv):=by rw [eH2];exact get_eq rfl
 have n2:=(hW.ext x2e).len
 have xh2:=x1.trans x2e
 have o0:=hB0.one
 have o1:=hB1.one
 unfold pwB at eH2 g2
 refine callL_run func6 rfl rfl ?_
 by_cases hK0:P.K.length=0
 ·have t1:((P.K.length:Int)=0)=True:=eq_true (by omega)
  have hsp:=@Nat.succ_ne_zero;repeat' (first|simp (disch:=first|exact dqc|fail) only [go_sem,↓reduceIte,hsp,hw0,e1,← eH2,g2,n2,t1]|refine WP_drw ?_|refine cnd_intro (fun hsp=>?_) fun hsp=>?_)
  exact fB rfl xh2
 ·have t1:((P.K.length:Int)=0)=False:=eq_false (by omega)
  have hsp:=@Nat.succ_ne_zero;repeat' (first|simp (disch:=first|exact dqc|fail) only [go_sem,↓reduceIte,hsp,hw0,e1,← eH2,g2,n2,t1]|refine WP_drw ?_|refine cnd_intro (fun hsp=>?_) fun hsp=>?_)
  obtain ⟨H3,eH3⟩:∃ H3,H3=H2++[spB v1 l1 0]:=⟨_,rfl⟩
  have x3:Ext H2 H3:=by rw [eH3];exact .app .refl
  have hw1:=run_wound (base:=h.length) (hB1.ext xh2)
  rw [← eH3] at hw1
  have hS3:SpAt H3 H2.length v1 l1 0:=by rw [eH3];exact SpAt.new (hB1.ext xh2) rfl
  have l3:H3.length=H2.length+1:=by rw [eH3];simp
  have pw2:=pw.ext x2e
  obtain ⟨_,H4,e4,xv,yv,S0,rfl,oS0,hSl,hSb,x4,oy⟩:=run_Stopped (base:=h.length) (by omega) (by omega) hS3 (by omega) x3 (Nat.le_refl _) pw2 ok
  have ox:=oS0.one
  have g3:=x3.get g2
  have hlow:refsLow H2.length (.agg [sv,wv]):=by
   obtain ⟨xs,a,_⟩:=hP.ext x2e
   obtain ⟨vs,b,_⟩:=hW.ext x2e
   have p1:=rows_lowR a
   have p2:=rows_lowR b
   simp only [refsLow,AVal.refs,refsL,List.append_nil] at p1 p2 ⊢
   rw [List.all_append,p1,p2];rfl
  refine WPS_go ?_
  refine WP_wild [⟨2,103,8,⟨H1.length,0,0⟩,.agg [sv,wv],3⟩] (by kernel_rfl) (by kernel_rfl) (by kernel_rfl) ⟨hlow,trivial⟩ fun K hK=>?_
  iterate 9
   rw [TRS_cons]
   refine ⟨by first|(simp (disch:=first|exact dqc|fail) only [go_sem,↓reduceIte,hw1,g2,g3,e4,ldsQ_cons,ldsQ_nil,grdQ_cons,grdQ_nil,if_true,Nat.reduceLeDiff];done)|exact trivial,?_⟩
   simp (disch:=first|exact dqc|fail) only [go_sem,↓reduceIte,hw1,g2,g3,e4]
  rw [TRS_nil]
  refine ⟨by first|(simp (disch:=first|exact dqc|fail) only [go_sem,↓reduceIte,hw1,g2,g3,e4,ldsQ_cons,ldsQ_nil,grdQ_cons,grdQ_nil,if_true,Nat.reduceLeDiff];done)|exact trivial,?_⟩
  subst hK
  have hsp:=@Nat.succ_ne_zero;repeat' (first|simp (disch:=first|exact dqc|fail) only [go_sem,↓reduceIte,hsp]|refine WP_drw ?_|refine cnd_intro (fun hsp=>?_) fun hsp=>?_)
  refine WPS_restF fun Z eZ=>?_
  rw [← WP_seq]
  have kZ2:=congrFun eZ 2
  have kZ8:=congrFun eZ 8
  have kZ9:=congrFun eZ 9
  try simp (disch:=first|exact dqc|fail) only [go_sem,↓reduceIte] at kZ2 kZ8 kZ9
  clear eZ
  have okS:MOkS P S0:=⟨ok,hSl,by omega,hSb⟩
  refine WP_meet (fun fr h'=>Agree [(63,76)] fr Z∧∃ S,Ext H2 h'∧Own encI 108 H3.length h' xv S∧MOkS P S) ?_ ?_
  ·rw [WP_seq,WP_region]
   by_cases c:x2.tmod 3=0
   ·have t2:(x2.tmod 3=0)=True:=eq_true c
    have q1:0≤x2.tmod (S0.length:Int)∧x2.tmod (S0.length:Int)<(S0.length:Int):=by
     rw [Int.tmod_eq_emod_of_nonneg hx2.1]
     exact ⟨Int.emod_nonneg _ (by omega),Int.emod_lt_of_pos _ (by omega)⟩
    obtain ⟨i,ei⟩:=Int.eq_ofNat_of_zero_le q1.1
    rw [ei] at q1
    have q2:0≤(x2.tdiv 3).tmod 3∧(x2.tdiv 3).tmod 3≤2:=by
     rw [Int.tdiv_eq_ediv_of_nonneg hx2.1,Int.tmod_eq_emod_of_nonneg (by omega)]
     omega
    obtain ⟨y,ey⟩:∃ y,y=(x2.tdiv 3).tmod 3:=⟨_,rfl⟩
    rw [← ey] at q2
    have q3:0≤x2.tdiv 3∧x2.tdiv 3≤255:=by rw [Int.tdiv_eq_ediv_of_nonneg hx2.1];omega
    have w8:IntKind.u8.wrap (x2.tdiv 3)=x2.tdiv 3:=wrp8 q3
    have cv1:=cv8I hx2
    have cv2:=cv8S (x:=y) (by omega)
    have hR0:=oS0.rows (by omega)
    have nS:=sgt_len hR0
    obtain ⟨a1,_⟩:=sgt_at hR0 (k:=i) (by omega)
    have t3:((S0.length:Int)=0)=False:=eq_false (by omega)
    have t4:(S0.length:Int) ≠ 0:=by omega
    rcases oS0 with ⟨_,q⟩|⟨sid,ver,rfl,g4,hsid,_⟩
    ·rw [q] at hSl;simp at hSl;omega
    ·have g4':H4[sid]?=some ⟨.cells (ints S0) 108 true false,ver⟩:=by rw [g4,rowE,flat_encI]
     have a1':indexAddrA prog 105 (.slice (some ⟨sid,ver,0⟩) S0.length S0.length) (.int .i64 (i:Int))=some (.ptr (some ⟨sid,ver,i⟩)):=by rw [a1];simp [elAdr,encI,ARef.add]
     have hst:∀ {Kk:ABlk→Heap},stQ h.length sid (some ⟨.cells (ints S0) 108 true false,ver⟩) ver i [.int .i64 y] Kk=some (Kk ⟨.cells (ints (S0.set i y)) 108 true false,ver⟩):=fun {Kk}=>by
      rw [stQ_own (by omega) (by rw [ints_length];simp only [List.length_cons,List.length_nil];omega) (by simp [AVal.scalar])]
      simp only [splice,ints_set]
     have hsp:=@Nat.succ_ne_zero;repeat' (first|simp (disch:=first|exact dqc|fail) only [go_sem,↓reduceIte,hsp,kZ2,kZ8,kZ9,t2,cv1,nS,t3,t4,ei,w8,← ey,cv2,a1',g4',hst]|refine WP_drw ?_|refine cnd_intro (fun hsp=>?_) fun hsp=>?_)
     refine ⟨agq,S0.set i y,x4.set (by omega),.inr ⟨sid,ver,by rw [List.length_set],?_,hsid,by rw [List.length_set];omega⟩,⟨ok,by rw [List.length_set];exact hSl,by omega,fun z hz=>?_⟩⟩
     ·rw [List.getElem?_set_self (lt_of_get g4),rowE,flat_encI]
     ·rcases List.mem_or_eq_of_mem_set hz with q|q
      ·exact hSb z q
      ·rw [q];exact q2
   ·have t2:(x2.tmod 3=0)=False:=eq_false c
    have hsp:=@Nat.succ_ne_zero;repeat' (first|simp (disch:=first|exact dqc|fail) only [go_sem,↓reduceIte,hsp,kZ2,kZ8,kZ9,t2]|refine WP_drw ?_|refine cnd_intro (fun hsp=>?_) fun hsp=>?_)
    exact ⟨agq,S0,x4,oS0,okS⟩
  ·rintro fr2 E0 ⟨hA2,S,xE0,oS,hM⟩
   have y8:=hA2 8 rfl
   have y9:=hA2 9 rfl
   try simp (disch:=first|exact dqc|fail) only [go_sem,↓reduceIte,kZ8,kZ9] at y8 y9
   clear okS oS0 hSl hSb
   have xo:=oS.one
   have lE0:=xE0.len
   have hlen:=hM.len
   have gE:=xE0.get g2
   have nW:=(hW.ext (x2e.trans xE0)).len
   obtain ⟨E1,eE1⟩:∃ E1,E1=E0++[lkB P (.slice none 0 0) (.slice none 0 0)]:=⟨_,rfl⟩
   have xE1:Ext E0 E1:=by rw [eE1];exact .app .refl
   have lE1:E1.length=E0.length+1:=by rw [eE1];simp
   have nS:=(hP.ext (x2e.trans (xE0.trans xE1))).len
   have gE1:=xE1.get gE
   have mk0:MkI P E0 0 E1 (.slice none 0 0) (.slice none 0 0) []:=⟨⟨xE1,by omega⟩,by rw [eE1];exact get_eq rfl,Own.nil,Own.nil,rfl,fun j x s h1 _=>by simp at h1⟩
   unfold lkB at eE1
   have hsp:=@Nat.succ_ne_zero;repeat' (first|simp (disch:=first|exact dqc|fail) only [go_sem,↓reduceIte,hsp,y8,y9,gE,nW,← eE1,gE1,nS]|refine WP_drw ?_|refine cnd_intro (fun hsp=>?_) fun hsp=>?_)
   refine WP_count [(6,6),(12,12),(14,18),(84,126)] 0 P.U.length (Nat.zero_le _) (fun _ i fr K=>fr 84=.int .i64 (i:Int)∧∃ pv sl vs,fr 12=sl∧MkI P E0 i K pv sl vs) ?_ ?_ ?_
   ·exact ⟨by (simp (disch:=first|exact dqc|fail) only [go_sem,↓reduceIte,Int.natCast_zero];first|done|rfl),.slice none 0 0,.slice none 0 0,[],by simp (disch:=first|exact dqc|fail) only [go_sem,↓reduceIte],mk0⟩
   ·rintro i fr J hi0 hi hA ⟨r84,pv,sl,vs,r12,mk⟩
    have p8:=hA 8 rfl
    have p9:=hA 9 rfl
    have p11:=hA 11 rfl
    have p13:=hA 13 rfl
    have p83:=hA 83 rfl
    try simp (disch:=first|exact dqc|fail) only [go_sem,↓reduceIte,y8,y9] at p8 p9 p11 p13 p83
    have hlt:((i:Int)<(P.U.length:Int))=True:=eq_true (by omega)
    have xJ:=mk.1.1
    have lJ:=mk.1.2
    have slo:=mk.2.2.2.1.one
    have gJ:=xJ.get gE
    have nJ:=(hW.ext (x2e.trans (xE0.trans xJ))).len
    obtain ⟨J1,eJ1⟩:∃ J1:Heap,J1=J++[⟨.cells [.slice none 0 0,.int .i64 1,.int .i64 0,.bool false] 58 false false,0⟩]:=⟨_,rfl⟩
    have xJ1:Ext J J1:=by rw [eJ1];exact .app .refl
    have gJ1:=xJ1.get gJ
    have nJ1:=(hW.ext (x2e.trans (xE0.trans (xJ.trans xJ1)))).len
    have hsp:=@Nat.succ_ne_zero;repeat' (first|simp (disch:=first|exact dqc|fail) only [go_sem,↓reduceIte,hsp,r84,r12,p8,p9,p11,p13,p83,hlt,gJ,nJ,← eJ1,gJ1,nJ1]|refine WP_drw ?_|refine cnd_intro (fun hsp=>?_) fun hsp=>?_)
    have rb0:RbI P J i 0 J1 (.slice none 0 0):=⟨⟨xJ1,by rw [eJ1];simp⟩,by rw [eJ1];exact get_eq rfl,Own.nil⟩
    refine WP_count [(6,6),(16,18),(91,111)] 0 P.K.length (Nat.zero_le _) (fun _ k fr X=>fr 91=.int .i64 (k:Int)∧∃ rv,RbI P J i k X rv) ?_ ?_ ?_
    ·exact ⟨by (simp (disch:=first|exact dqc|fail) only [go_sem,↓reduceIte,Int.natCast_zero];first|done|rfl),_,rb0⟩
    ·rintro k fr3 X hk0 hk hA3 ⟨r91,rv,⟨xX,lX⟩,gX,oX⟩
     have d8:=hA3 8 rfl
     have d9:=hA3 9 rfl
     have d11:=hA3 11 rfl
     have d12:=hA3 12 rfl
     have d13:=hA3 13 rfl
     have d14:=hA3 14 rfl
     have d15:=hA3 15 rfl
     have d83:=hA3 83 rfl
     have d84:=hA3 84 rfl
     have d90:=hA3 90 rfl
     try simp (disch:=first|exact dqc|fail) only [go_sem,↓reduceIte,p8,p9,p11,p13,p83] at d8 d9 d11 d12 d13 d14 d15 d83 d84 d90
     have hlt2:((k:Int)<(P.K.length:Int))=True:=eq_true (by omega)
     have ro:=oX.one
     have xEX:=xE0.trans (xJ.trans xX)
     have gmX:=xX.get gJ
     obtain ⟨_,X2,e5,x5,ln,rfl,oL⟩:=run_Line (base:=h.length) (k:=k) (by omega) (pw2.ext xEX) ok hk
     have lno:=oL.one
     have l5:=x5.len
     have hll:(lnK P k).length≤6:=by
      have hmk:=ok.s _ (getD_at (d:=(-1:Int)) hk ▸ List.getElem_mem hk)
      have:=lnA_len ok.u (show -1≤P.K.getD k (-1) by omega) hmk.2
      unfold lnK
      omega
     have iL:Ints X2 ln (lnK P k):=own_ints oL ⟨by omega,fun z hz=>by have:=(drv_lt ok (decide_eq_true hz:drv P z k=true)).2;omega⟩
     have e6:=fun base=>run_contains (base:=base) (x:=(i:Int)) iL
     have ed:decide ((i:Int) ∈ lnK P k)=drv P (i:Int) k:=rfl
     rw [ed] at e6
     have g5:=x5.get gX
     have o5:=oX.ext x5
     have hfl:=upto_flen (p:=fun k=>drv P (i:Int) k.toNat) (n:=k)
     unfold ptB at g5
     cases c:drv P (i:Int) k with
     | true =>
      rw [c] at e6
      obtain ⟨rv',X3,ea,oV,hle,hE,hV1⟩:=o5.append1 (y:=(k:Int)) (base:=h.length) (t:=35) rfl rfl Fc.el35 encI_sc (by omega) (by omega) (by omega)
      have g6:=keep_low hE (by omega) g5
      have hfin:RbI P J i (k+1) (X3.set J.length (ptB rv')) rv':=by
       refine ⟨⟨(hE J (by omega) (xX.trans x5)).set (Nat.le_refl _),by rw [List.length_set];omega⟩,by rw [List.getElem?_set_self (lt_of_get g6)],?_⟩
       rw [upto_one,if_pos (by rw [Int.toNat_natCast];exact c)]
       exact oV.set (by omega)
      unfold ptB at hfin
      have hsp:=@Nat.succ_ne_zero;repeat' (first|simp (disch:=first|exact dqc|fail) only [go_sem,↓reduceIte,hsp,r91,d8,d9,d11,d12,d13,d14,d15,d83,d84,d90,hlt2,gmX,e5,e6,g5,ea,g6]|refine WP_drw ?_|refine cnd_intro (fun hsp=>?_) fun hsp=>?_)
      exact ⟨agq,by omega,rv',hfin⟩
     | false =>
      rw [c] at e6
      have hsp:=@Nat.succ_ne_zero;repeat' (first|simp (disch:=first|exact dqc|fail) only [go_sem,↓reduceIte,hsp,r91,d8,d9,d11,d12,d13,d14,d15,d83,d84,d90,hlt2,gmX,e5,e6]|refine WP_drw ?_|refine cnd_intro (fun hsp=>?_) fun hsp=>?_)
      refine ⟨agq,by omega,rv,⟨xX.trans x5,by omega⟩,x5.get gX,?_⟩
      rw [upto_one,if_neg (by rw [Int.toNat_natCast,c];simp),List.append_nil]
      exact o5
    ·rintro fr3 X hA3 ⟨r91,rv,⟨xX,lX⟩,gX,oX⟩
     have d8:=hA3 8 rfl
     have d9:=hA3 9 rfl
     have d11:=hA3 11 rfl
     have d12:=hA3 12 rfl
     have d13:=hA3 13 rfl
     have d14:=hA3 14 rfl
     have d15:=hA3 15 rfl
     have d83:=hA3 83 rfl
     have d84:=hA3 84 rfl
     have d90:=hA3 90 rfl
     try simp (disch:=first|exact dqc|fail) only [go_sem,↓reduceIte,p8,p9,p11,p13,p83] at d8 d9 d11 d12 d13 d14 d15 d83 d84 d90
     have hlt2:((P.K.length:Int)<(P.K.length:Int))=False:=eq_false (by omega)
     have ro:=oX.one
     have erib:((upto P.K.length).filter fun k=>drv P (i:Int) k.toNat)=ribO P (i:Int):=rfl
     rw [erib] at oX
     have mkX:=mk.ext xX
     have hrl:(ribO P (i:Int)).length≤P.K.length:=upto_flen
     have nR:=own_len oX Fc.el35 (by omega)
     unfold ptB at gX
     by_cases c:0<(ribO P (i:Int)).length
     ·have t5:(((ribO P (i:Int)).length:Int) > 0)=True:=eq_true (by omega)
      have hAs:Asun sl rv:=asun_low mk.2.2.2.1 oX (by omega)
      obtain ⟨w',H6,sl',H7,ea,eb,g6,g7,n6,n7,l7,mk7⟩:=mkX.next (base:=h.length) (by omega) oX (by omega) hAs c (by omega)
      have gl:=mkX.2.1
      have bsp:=fun lit=>bsFP (lit:=lit) (H:=X) ro
      have pvo:=mkX.2.2.1.one
      unfold lkB at gl g6 g7 mk7
      have hsp:=@Nat.succ_ne_zero;repeat' (first|simp (disch:=first|exact dqc|fail) only [go_sem,↓reduceIte,hsp,r84,r12,r91,d8,d9,d11,d12,d13,d14,d15,d83,d84,d90,hlt2,gX,nR,t5,gl,bsp,ea,eb,g7]|refine WP_drw ?_|refine cnd_intro (fun hsp=>?_) fun hsp=>?_)
      exact ⟨agq,by omega,w',sl',_,rfl,mk7⟩
     ·have t5:(((ribO P (i:Int)).length:Int) > 0)=False:=eq_false (by omega)
      have hsp:=@Nat.succ_ne_zero;repeat' (first|simp (disch:=first|exact dqc|fail) only [go_sem,↓reduceIte,hsp,r84,r12,r91,d8,d9,d11,d12,d13,d14,d15,d83,d84,d90,hlt2,gX,nR,t5]|refine WP_drw ?_|refine cnd_intro (fun hsp=>?_) fun hsp=>?_)
      exact ⟨agq,by omega,pv,sl,vs,rfl,mkX.skip c⟩
   ·rintro fr E hA ⟨r84,pv,sl,vs,r12,mk⟩
    have p8:=hA 8 rfl
    have p9:=hA 9 rfl
    have p11:=hA 11 rfl
    have p13:=hA 13 rfl
    have p83:=hA 83 rfl
    try simp (disch:=first|exact dqc|fail) only [go_sem,↓reduceIte,y8,y9] at p8 p9 p11 p13 p83
    have hlt:((P.U.length:Int)<(P.U.length:Int))=False:=eq_false (by omega)
    have xJ:=mk.1.1
    have slo:=mk.2.2.2.1.one
    have oSE:=oS.ext xJ
    have rSE:=oSE.rows (by omega)
    have nSg:=sgt_len rSE
    have hsp:=@Nat.succ_ne_zero;repeat' (first|simp (disch:=first|exact dqc|fail) only [go_sem,↓reduceIte,hsp,r84,r12,p8,p9,p11,p13,p83,hlt,nSg]|refine WP_drw ?_|refine cnd_intro (fun hsp=>?_) fun hsp=>?_)
    have cE:=mk.2.1
    have sg0:SgI P S E E0.length pv 0 E (.slice none 0 0) (.slice none 0 0):=⟨⟨lt_of_get cE,by rw [set_id cE];exact .refl⟩,Own.nil,Own.nil⟩
    refine WP_count [(13,20),(129,149)] 0 S.length (Nat.zero_le _) (fun _ k fr F=>fr 129=.int .i64 (k:Int)∧∃ sgv wl,fr 13=wl∧SgI P S E E0.length pv k F sgv wl) ?_ ?_ ?_
    ·exact ⟨by (simp (disch:=first|exact dqc|fail) only [go_sem,↓reduceIte,Int.natCast_zero];first|done|rfl),.slice none 0 0,.slice none 0 0,by simp (disch:=first|exact dqc|fail) only [go_sem,↓reduceIte,p13],sg0⟩
    ·rintro k fr3 F hk0 hk hA3 ⟨r129,sgv,wl,r13,sg⟩
     have d6:=hA3 6 rfl
     have d8:=hA3 8 rfl
     have d9:=hA3 9 rfl
     have d11:=hA3 11 rfl
     have d12:=hA3 12 rfl
     have d127:=hA3 127 rfl
     have d128:=hA3 128 rfl
     try simp (disch:=first|exact dqc|fail) only [go_sem,↓reduceIte,p8,p9,p11] at d6 d8 d9 d11 d12 d127 d128
     have hlt2:((k:Int)<(S.length:Int))=True:=eq_true (by omega)
     have wlo:=sg.2.2.one
     have sgo:=sg.2.1.one
     have cF:=sg.at
     have lF:=sg.len
     have lEE:=xJ.len
     have xEF:Ext E0 F:=(xJ.set (Nat.le_refl _)).trans sg.1.2
     obtain ⟨a1,a2⟩:=sgt_at ((oS.ext xEF).rows (by omega)) hk
     by_cases c:S.getD k 0=0
     ·have t5:(S.getD k 0=0)=True:=eq_true c
      have hsp:=@Nat.succ_ne_zero;repeat' (first|simp (disch:=first|exact dqc|fail) only [go_sem,↓reduceIte,hsp,r129,r13,d6,d8,d9,d11,d12,d127,d128,hlt2,a1,a2,t5]|refine WP_drw ?_|refine cnd_intro (fun hsp=>?_) fun hsp=>?_)
      exact ⟨agq,by omega,sgv,wl,rfl,sg.skip c⟩
     ·have t5:(S.getD k 0=0)=False:=eq_false c
      obtain ⟨w',H6,wl',H7,ea,eb,g6,g7,n6,n7,l7,sg7⟩:=sg.next (base:=h.length) (by omega) c (by omega)
      have bss:∀ {lit:Bool} {b:Bool},bsA prog lit F 60 1 [(0,.agg [.int .i64 (k:Int),.int .i64 0,.int .i64 0,.bool b])]=some (.slice (some ⟨F.length,0,0⟩) 1 1,F++[rowE encS 113 [⟨(k:Int),0,0,b⟩] 0]):=fun {lit b}=>bsFS
      unfold lkB at cF g6 g7 sg7
      have hsp:=@Nat.succ_ne_zero;repeat' (first|simp (disch:=first|exact dqc|fail) only [go_sem,↓reduceIte,hsp,r129,r13,d6,d8,d9,d11,d12,d127,d128,hlt2,a1,a2,t5,cF,bss,ea,eb,g7]|refine WP_drw ?_|refine cnd_intro (fun hsp=>?_) fun hsp=>?_)
      exact ⟨agq,by omega,w',wl',rfl,sg7⟩
    ·rintro fr3 F hA3 ⟨r129,sgv,wl,r13,sg⟩
     have d6:=hA3 6 rfl
     have d8:=hA3 8 rfl
     have d9:=hA3 9 rfl
     have d11:=hA3 11 rfl
     have d12:=hA3 12 rfl
     have d127:=hA3 127 rfl
     have d128:=hA3 128 rfl
     try simp (disch:=first|exact dqc|fail) only [go_sem,↓reduceIte,p8,p9,p11] at d6 d8 d9 d11 d12 d127 d128
     have hlt2:((S.length:Int)<(S.length:Int))=False:=eq_false (by omega)
     obtain ⟨hL,iSl,iWl,xEF⟩:=lom_at hM mk sg
     have cF:=sg.at
     rw [r12] at d12
     have hc:=lom_chk hM
     have okL:=lom_ok hM
     have hFl:h.length≤F.length:=by have:=xEF.len;omega
     have pwF:=pw2.ext (xE0.trans xEF)
     have gF:=xEF.get gE
     have rSF:=(oS.ext xEF).rows (by omega)
     obtain ⟨_,F1,c1e,z1,y1,rfl,o1y⟩:=run_Slipped (base:=h.length) hFl pwF hM rSF
     obtain ⟨_,F2,c2e,z2,y2,rfl,o2y⟩:=run_fewest (base:=h.length) (by have:=z1.len;omega) (hL.ext z1) okL
     have z12:=z1.trans z2
     obtain ⟨_,F3,c3e,z3,y3,rfl,o3y⟩:=run_Surely (base:=h.length) (by have:=z12.len;omega) (pwF.ext z12) hM (rSF.ext z12)
     have z13:=z12.trans z3
     obtain ⟨_,F4,c4e,z4,y4,rfl,o4y⟩:=run_must (base:=h.length) (by have:=z13.len;omega) (hL.ext z13) okL
     have z14:=z13.trans z4
     obtain ⟨_,F5,c5e,z5,y5,rfl,o5y⟩:=run_Prove (base:=h.length) (by have:=z14.len;omega) (pwF.ext z14) hM (rSF.ext z14)
     have z15:=z14.trans z5
     obtain ⟨_,F6,c6e,z6,y6,rfl,o6y⟩:=run_packed (base:=h.length) (by have:=z15.len;omega) (hL.ext z15) okL
     have z16:=z15.trans z6
     obtain ⟨_,F7,c7e,z7,y7,rfl,o7y⟩:=run_Cleared (base:=h.length) (by have:=z16.len;omega) (pwF.ext z16) hM (rSF.ext z16)
     have z17:=z16.trans z7
     obtain ⟨_,F8,c8e,z8,y8,rfl,o8y⟩:=run_clash (base:=h.length) (by have:=z17.len;omega) (hL.ext z17) okL
     have z18:=z17.trans z8
     have hL8:=hL.ext z18
     have iSl8:=iSl.ext z18
     have iWl8:=iWl.ext z18
     have c9e:=fun base=>run_check' (base:=base) hL8 okL
     rw [hc] at c9e
     unfold lkB at cF
     have g1:=z1.get gF
     have g12:=z12.get gF
     have g14:=z14.get gF
     have g16:=z16.get gF
     have c1:=z1.get cF
     have c13:=z13.get cF
     have c15:=z15.get cF
     have c17:=z17.get cF
     have c8:=z18.get cF
     have n1:=o1y.one
     have n2:=o2y.one
     have n3:=o3y.one
     have n4:=o4y.one
     have n5:=o5y.one
     have n6:=o6y.one
     have n7:=o7y.one
     have n8:=o8y.one
     have l8:=z18.len
     have hL8':=hL8
     obtain ⟨pv',sgv',ev,hPts,hSgs⟩:=hL8'
     simp only [AVal.agg.injEq,List.cons.injEq] at ev
     obtain ⟨_,_,rfl,rfl,_⟩:=ev
     have nPt:=hPts.len
     rw [lom_ps] at nPt
     have xhF8:Ext h F8:=xh2.trans ((xE0.trans xEF).trans z18)
     have hsfl:(shfO P).length≤P.U.length:=shfJ_len (P:=P) (n:=P.U.length)
     rcases stop_law hM with ⟨qc,qs,qn⟩|⟨qc,t,ht⟩
     ·obtain ⟨m1,m2,m3,m4⟩:=no_law hM qn
      have v1:(slpM P S).2=7:=by rw [qs]
      have v3:(surE P S).2=7:=by unfold surE;rw [if_pos qc]
      have v5:(prvE P S).2=7:=by unfold prvE;rw [if_pos qc]
      rw [v1] at c1e
      rw [m1] at c2e
      rw [v3] at c3e
      rw [m2] at c4e
      rw [v5] at c5e
      rw [m3] at c6e
      rw [m4] at c8e
      have bn:binA prog .neq 4 (.bool false) (.bool false)=some (.bool false):=by kernel_rfl
      have hsp:=@Nat.succ_ne_zero;repeat' (first|simp (disch:=first|exact dqc|fail) only [go_sem,↓reduceIte,hsp,r129,d6,d8,d9,d11,d12,d127,d128,d13,hlt2,gF,c1e,c1,c2e,g12,c3e,c13,c4e,g14,c5e,c15,c6e,g16,c7e,c17,c8e,c8,c9e,bn,nPt]|refine WP_drw ?_|refine cnd_intro (fun hsp=>?_) fun hsp=>?_)
      refine WP_count [(6,6),(38,41),(236,257)] 0 (shfO P).length (Nat.zero_le _) (fun _ p fr J=>fr 236=.int .i64 (p:Int)∧Ext F8 J∧∃ ov,fr 38=ov∧Own encI 3 F8.length J ov (outJ P S p)) ?_ ?_ ?_
      ·exact ⟨by (simp (disch:=first|exact dqc|fail) only [go_sem,↓reduceIte,Int.natCast_zero];first|done|rfl),.refl,.slice none 0 0,by simp (disch:=first|exact dqc|fail) only [go_sem,↓reduceIte],Own.nil⟩
      ·rintro p fr4 J hp0 hp hA4 ⟨r236,xJ8,ov,r38,oOut⟩
       have c11:=hA4 11 rfl
       have c12:=hA4 12 rfl
       have c13:=hA4 13 rfl
       have c21:=hA4 21 rfl
       have c22:=hA4 22 rfl
       have c23:=hA4 23 rfl
       have c24:=hA4 24 rfl
       have c26:=hA4 26 rfl
       have c28:=hA4 28 rfl
       have c30:=hA4 30 rfl
       have c32:=hA4 32 rfl
       have c34:=hA4 34 rfl
       have c235:=hA4 235 rfl
       try simp (disch:=first|exact dqc|fail) only [go_sem,↓reduceIte,d11,d12,d13] at c11 c12 c13 c21 c22 c23 c24 c26 c28 c30 c32 c34 c235
       have hlt3:((p:Int)<((shfO P).length:Int))=True:=eq_true (by omega)
       have ovo:=oOut.one
       have lJ8:=xJ8.len
       have cJ:=xJ8.get c8
       obtain ⟨_,J2,e10,x10,zv,rfl,oz⟩:=run_excluded (base:=h.length) (k:=(p:Int)) (by omega) (hL8.ext xJ8) okL
       obtain ⟨ez,el⟩:=exc_law hM hc (p:=(p:Int)) ⟨by omega,by omega⟩
       rw [ez] at e10
       rw [Int.toNat_natCast] at el
       have zo:=oz.one
       have exl:=excM_len (L:=lomO P S) (k:=(p:Int))
       have eT:(lomO P S).T.toNat=1:=rfl
       have nz:=own_len oz Fc.el35 (by omega)
       have o2:=oOut.ext x10
       have l10:=x10.len
       have iSlJ:=iSl8.ext (xJ8.trans x10)
       have d1:=adrI (i:=(p:Int)) (by omega) iSlJ (by omega)
       rw [Int.toNat_natCast] at d1
       have d2:=loadI iSlJ (i:=p) hp
       have hol:=outJ_len (P:=P) (S:=S) (p:=p)
       have hst:=outJ_succ (S:=S) hp
       by_cases cc:clrB P S ((shfO P).getD p 0)=true
       ·have t6:(((excM (lomO P S) (p:Int)).1.length:Int) > 0)=True:=eq_true (by have:=el.2 cc;omega)
        obtain ⟨ov',J3,ea,oV,hle,hE,hV1⟩:=o2.append1 (y:=(shfO P).getD p 0) (base:=h.length) (t:=35) rfl rfl Fc.el35 encI_sc (by omega) (by omega) (by omega)
        rw [if_pos cc] at hst
        rw [← hst] at oV
        have hsp:=@Nat.succ_ne_zero;repeat' (first|simp (disch:=first|exact dqc|fail) only [go_sem,↓reduceIte,hsp,r236,r38,c11,c12,c13,c21,c22,c23,c24,c26,c28,c30,c32,c34,c235,hlt3,cJ,e10,nz,t6,d1,d2,ea]|refine WP_drw ?_|refine cnd_intro (fun hsp=>?_) fun hsp=>?_)
        exact ⟨agq,by omega,hE F8 (Nat.le_refl _) (xJ8.trans x10),ov',rfl,oV⟩
       ·have t6:(((excM (lomO P S) (p:Int)).1.length:Int) > 0)=False:=eq_false (by
         intro q
         exact cc (el.1 (by omega)))
        rw [if_neg cc,List.append_nil] at hst
        rw [← hst] at o2
        have hsp:=@Nat.succ_ne_zero;repeat' (first|simp (disch:=first|exact dqc|fail) only [go_sem,↓reduceIte,hsp,r236,r38,c11,c12,c13,c21,c22,c23,c24,c26,c28,c30,c32,c34,c235,hlt3,cJ,e10,nz,t6]|refine WP_drw ?_|refine cnd_intro (fun hsp=>?_) fun hsp=>?_)
        exact ⟨agq,by omega,xJ8.trans x10,ov,rfl,o2⟩
      ·rintro fr4 J hA4 ⟨r236,xJ8,ov,r38,oOut⟩
       have c11:=hA4 11 rfl
       have c12:=hA4 12 rfl
       have c13:=hA4 13 rfl
       have c21:=hA4 21 rfl
       have c22:=hA4 22 rfl
       have c23:=hA4 23 rfl
       have c24:=hA4 24 rfl
       have c26:=hA4 26 rfl
       have c28:=hA4 28 rfl
       have c30:=hA4 30 rfl
       have c32:=hA4 32 rfl
       have c34:=hA4 34 rfl
       have c235:=hA4 235 rfl
       try simp (disch:=first|exact dqc|fail) only [go_sem,↓reduceIte,d11,d12,d13] at c11 c12 c13 c21 c22 c23 c24 c26 c28 c30 c32 c34 c235
       have hlt3:(((shfO P).length:Int)<((shfO P).length:Int))=False:=eq_false (by omega)
       have ovo:=oOut.one
       have eo:outJ P S (shfO P).length=clrL P S:=by unfold outJ;rw [List.take_length];exact clr_shf hM
       rw [eo] at oOut
       have hcl:(clrL P S).length≤P.U.length:=upto_flen
       have sm:Small (clrL P S):=⟨by omega,fun y hy=>by have:=upto_mem.1 (List.mem_filter.1 (show y ∈ (upto P.U.length).filter (clrB P S) from hy)).1;omega⟩
       have e11:=fun base=>run_equal (base:=base) (own_ints oOut sm) (own_ints (o7y.ext (z8.trans xJ8)) sm)
       rw [decide_eq_true rfl] at e11
       have hsp:=@Nat.succ_ne_zero;repeat' (first|simp (disch:=first|exact dqc|fail) only [go_sem,↓reduceIte,hsp,r236,r38,c11,c12,c13,c21,c22,c23,c24,c26,c28,c30,c32,c34,c235,hlt3,e11]|refine WP_drw ?_|refine cnd_intro (fun hsp=>?_) fun hsp=>?_)
       exact fB rfl (xhF8.trans xJ8)
     ·obtain ⟨s1,s2,s3,s4,s5⟩:=slip_law hM hc ht
      obtain ⟨m1,m2,m3⟩:=must_law hM hc ht
      obtain ⟨p1,p2,p3⟩:=pack_law hM hc ht
      have v2:=(fewM_truth hc ht).1
      have v8:(clsM (lomO P S)).2=6:=by rw [clsM_none hc ht]
      have v3:surE P S=(surM P S,0):=by unfold surE;rw [if_neg (by rw [qc];simp)]
      have v5:prvE P S=(prvN P S (P.K.length+1),0):=by unfold prvE;rw [if_neg (by rw [qc];simp)]
      rw [s1] at c1e
      rw [v2] at c2e
      rw [v3] at c3e o3y
      rw [m1] at c4e
      rw [v5] at c5e o5y
      rw [p1] at c6e
      rw [v8] at c8e
      have bn:binA prog .neq 4 (.bool true) (.bool true)=some (.bool false):=by kernel_rfl
      have b0:binA prog .neq 4 (.bool false) (.bool false)=some (.bool false):=by kernel_rfl
      have sll:=s5.length_le
      rw [upto_len] at sll
      have slb:∀ x ∈ (slpM P S).1,0≤x∧x<(P.U.length:Int):=fun x hx=>upto_mem.1 (s5.subset hx)
      have i1:Ints F1 y1 (slpM P S).1:=own_ints o1y ⟨by omega,fun y hy=>by have:=slb y hy;omega⟩
      have mll:=(sub_upto mst_sorted m2).length_le
      rw [upto_len] at mll
      have i4:Ints F4 y4 (mstM (lomO P S)).1:=own_ints o4y ⟨by omega,fun y hy=>by have:=m2 y hy;omega⟩
      have pkl:(pckM (lomO P S)).1.length=(prvN P S (P.K.length+1)).length:=by rw [← p3,List.length_map]
      have pvb:=prvN_bd (P:=P) (S:=S) (n:=P.K.length+1)
      have wll:(wvrO S).length≤S.length:=upto_flen
      have i6:Ints F6 y6 (pckM (lomO P S)).1:=own_ints o6y ⟨by omega,fun y hy=>by have:=p2 y hy;omega⟩
      have hsp:=@Nat.succ_ne_zero;repeat' (first|simp (disch:=first|exact dqc|fail) only [go_sem,↓reduceIte,hsp,r129,d6,d8,d9,d11,d12,d127,d128,d13,hlt2,gF,c1e,c1,c2e,g12,c3e,c13,c4e,g14,c5e,c15,c6e,g16,c7e,c17,c8e,c8,c9e,bn,b0,nPt]|refine WP_drw ?_|refine cnd_intro (fun hsp=>?_) fun hsp=>?_)
      refine WP_count [(6,6),(38,41),(236,257)] 0 (shfO P).length (Nat.zero_le _) (fun _ p fr J=>fr 236=.int .i64 (p:Int)∧Ext F8 J∧∃ ov,fr 38=ov∧Own encI 3 F8.length J ov (outJ P S p)) ?_ ?_ ?_
      ·exact ⟨by (simp (disch:=first|exact dqc|fail) only [go_sem,↓reduceIte,Int.natCast_zero];first|done|rfl),.refl,.slice none 0 0,by simp (disch:=first|exact dqc|fail) only [go_sem,↓reduceIte],Own.nil⟩
      ·rintro p fr4 J hp0 hp hA4 ⟨r236,xJ8,ov,r38,oOut⟩
       have c11:=hA4 11 rfl
       have c12:=hA4 12 rfl
       have c13:=hA4 13 rfl
       have c21:=hA4 21 rfl
       have c22:=hA4 22 rfl
       have c23:=hA4 23 rfl
       have c24:=hA4 24 rfl
       have c26:=hA4 26 rfl
       have c28:=hA4 28 rfl
       have c30:=hA4 30 rfl
       have c32:=hA4 32 rfl
       have c34:=hA4 34 rfl
       have c235:=hA4 235 rfl
       try simp (disch:=first|exact dqc|fail) only [go_sem,↓reduceIte,d11,d12,d13] at c11 c12 c13 c21 c22 c23 c24 c26 c28 c30 c32 c34 c235
       have hlt3:((p:Int)<((shfO P).length:Int))=True:=eq_true (by omega)
       have ovo:=oOut.one
       have lJ8:=xJ8.len
       have cJ:=xJ8.get c8
       obtain ⟨_,J2,e10,x10,zv,rfl,oz⟩:=run_excluded (base:=h.length) (k:=(p:Int)) (by omega) (hL8.ext xJ8) okL
       obtain ⟨ez,el⟩:=exc_law hM hc (p:=(p:Int)) ⟨by omega,by omega⟩
       rw [ez] at e10
       rw [Int.toNat_natCast] at el
       have zo:=oz.one
       have exl:=excM_len (L:=lomO P S) (k:=(p:Int))
       have eT:(lomO P S).T.toNat=1:=rfl
       have nz:=own_len oz Fc.el35 (by omega)
       have o2:=oOut.ext x10
       have l10:=x10.len
       have iSlJ:=iSl8.ext (xJ8.trans x10)
       have d1:=adrI (i:=(p:Int)) (by omega) iSlJ (by omega)
       rw [Int.toNat_natCast] at d1
       have d2:=loadI iSlJ (i:=p) hp
       have hol:=outJ_len (P:=P) (S:=S) (p:=p)
       have hst:=outJ_succ (S:=S) hp
       by_cases cc:clrB P S ((shfO P).getD p 0)=true
       ·have t6:(((excM (lomO P S) (p:Int)).1.length:Int) > 0)=True:=eq_true (by have:=el.2 cc;omega)
        obtain ⟨ov',J3,ea,oV,hle,hE,hV1⟩:=o2.append1 (y:=(shfO P).getD p 0) (base:=h.length) (t:=35) rfl rfl Fc.el35 encI_sc (by omega) (by omega) (by omega)
        rw [if_pos cc] at hst
        rw [← hst] at oV
        have hsp:=@Nat.succ_ne_zero;repeat' (first|simp (disch:=first|exact dqc|fail) only [go_sem,↓reduceIte,hsp,r236,r38,c11,c12,c13,c21,c22,c23,c24,c26,c28,c30,c32,c34,c235,hlt3,cJ,e10,nz,t6,d1,d2,ea]|refine WP_drw ?_|refine cnd_intro (fun hsp=>?_) fun hsp=>?_)
        exact ⟨agq,by omega,hE F8 (Nat.le_refl _) (xJ8.trans x10),ov',rfl,oV⟩
       ·have t6:(((excM (lomO P S) (p:Int)).1.length:Int) > 0)=False:=eq_false (by
         intro q
         exact cc (el.1 (by omega)))
        rw [if_neg cc,List.append_nil] at hst
        rw [← hst] at o2
        have hsp:=@Nat.succ_ne_zero;repeat' (first|simp (disch:=first|exact dqc|fail) only [go_sem,↓reduceIte,hsp,r236,r38,c11,c12,c13,c21,c22,c23,c24,c26,c28,c30,c32,c34,c235,hlt3,cJ,e10,nz,t6]|refine WP_drw ?_|refine cnd_intro (fun hsp=>?_) fun hsp=>?_)
        exact ⟨agq,by omega,xJ8.trans x10,ov,rfl,o2⟩
      ·rintro fr4 J hA4 ⟨r236,xJ8,ov,r38,oOut⟩
       have c11:=hA4 11 rfl
       have c12:=hA4 12 rfl
       have c13:=hA4 13 rfl
       have c21:=hA4 21 rfl
       have c22:=hA4 22 rfl
       have c23:=hA4 23 rfl
       have c24:=hA4 24 rfl
       have c26:=hA4 26 rfl
       have c28:=hA4 28 rfl
       have c30:=hA4 30 rfl
       have c32:=hA4 32 rfl
       have c34:=hA4 34 rfl
       have c235:=hA4 235 rfl
       try simp (disch:=first|exact dqc|fail) only [go_sem,↓reduceIte,d11,d12,d13] at c11 c12 c13 c21 c22 c23 c24 c26 c28 c30 c32 c34 c235
       have hlt3:(((shfO P).length:Int)<((shfO P).length:Int))=False:=eq_false (by omega)
       have ovo:=oOut.one
       have lJ8:=xJ8.len
       have eo:outJ P S (shfO P).length=clrL P S:=by unfold outJ;rw [List.take_length];exact clr_shf hM
       rw [eo] at oOut
       have hcl:(clrL P S).length≤P.U.length:=upto_flen
       have sm:Small (clrL P S):=⟨by omega,fun y hy=>by have:=upto_mem.1 (List.mem_filter.1 (show y ∈ (upto P.U.length).filter (clrB P S) from hy)).1;omega⟩
       have e11:=fun base=>run_equal (base:=base) (own_ints oOut sm) (own_ints (o7y.ext (z8.trans xJ8)) sm)
       rw [decide_eq_true rfl] at e11
       have z58:Ext F4 J:=z5.trans (z6.trans (z7.trans (z8.trans xJ8)))
       obtain ⟨_,J1,e12,x12,ym,rfl,oym⟩:=run_named (base:=h.length) (by omega) (i4.ext z58) (iSl8.ext xJ8) m2 (by omega)
       have em:nmL (mstM (lomO P S)).1 (shfO P)=surM P S:=m3
       rw [em] at oym
       have l12:=x12.len
       obtain ⟨_,J2,e13,x13,yp,rfl,oyp⟩:=run_named (base:=h.length) (by omega) (i6.ext ((z7.trans (z8.trans xJ8)).trans x12)) (iWl8.ext (xJ8.trans x12)) p2 (by omega)
       have ep:nmL (pckM (lomO P S)).1 (wvrO S)=prvN P S (P.K.length+1):=p3
       rw [ep] at oyp
       have ymo:=oym.one
       have ypo:=oyp.one
       have xJ2:Ext J J2:=x12.trans x13
       have xJ2F:Ext F8 J2:=xJ8.trans xJ2
       have l13:=xJ2F.len
       have i3J:Ints J2 y3 (surM P S):=o3y.ext ((z4.trans z58).trans xJ2)
       have i5J:Ints J2 y5 (prvN P S (P.K.length+1)):=o5y.ext ((z6.trans (z7.trans (z8.trans xJ8))).trans xJ2)
       have i1J:Ints J2 y1 (slpM P S).1:=i1.ext ((z2.trans (z3.trans (z4.trans z58))).trans xJ2)
       have imJ:Ints J2 ym (surM P S):=own_ints (oym.ext x13) ⟨by have:=i3J.1.1;have:=mll;rw [← em];unfold nmL;rw [List.length_map];omega,i3J.1.2⟩
       have ipJ:Ints J2 yp (prvN P S (P.K.length+1)):=own_ints oyp ⟨by omega,i5J.1.2⟩
       have e14:=fun base=>run_equal (base:=base) imJ i3J
       have e15:=fun base=>run_equal (base:=base) ipJ i5J
       rw [decide_eq_true rfl] at e14 e15
       have nB:=own_len (o2y.ext ((z3.trans (z4.trans z58)).trans xJ2)) Fc.el116 (by omega)
       rw [s2] at nB
       have nS1:=lenI i1J
       have tl:(((slpM P S).1.length:Int)=((slpM P S).1.length:Int))=True:=eq_true rfl
       have tl2:(((slpM P S).1.length:Int) ≠ ((slpM P S).1.length:Int))=False:=eq_false (fun q=>q rfl)
       have iSlJ2:=iSl8.ext xJ2F
       have nSl:=lenI iSlJ2
       have hsp:=@Nat.succ_ne_zero;repeat' (first|simp (disch:=first|exact dqc|fail) only [go_sem,↓reduceIte,hsp,r236,r38,c11,c12,c13,c21,c22,c23,c24,c26,c28,c30,c32,c34,c235,r13,hlt3,e11,e12,e13,nB,nS1,tl,tl2,e14,e15,nSl]|refine WP_drw ?_|refine cnd_intro (fun hsp=>?_) fun hsp=>?_)
       refine WP_count [(44,46),(307,320)] 0 (shfO P).length (Nat.zero_le _) (fun _ p fr X=>fr 307=.int .i64 (p:Int)∧Ext J2 X∧∃ tv,fr 44=tv∧Own encB 67 J2.length X tv (bkJ P (slpM P S).1 p)) ?_ ?_ ?_
       ·exact ⟨by (simp (disch:=first|exact dqc|fail) only [go_sem,↓reduceIte,Int.natCast_zero];first|done|rfl),.refl,.slice none 0 0,by simp (disch:=first|exact dqc|fail) only [go_sem,↓reduceIte],Own.nil⟩
       ·rintro p fr5 X hp0 hp hA5 ⟨r307,xX,tv,r44,oT⟩
        have g6:=hA5 6 rfl
        have g11:=hA5 11 rfl
        have g22:=hA5 22 rfl
        have g305:=hA5 305 rfl
        have g306:=hA5 306 rfl
        try simp (disch:=first|exact dqc|fail) only [go_sem,↓reduceIte,c11,c22] at g6 g11 g22 g305 g306
        have hlt4:((p:Int)<((shfO P).length:Int))=True:=eq_true (by omega)
        have tvo:=oT.one
        have lX:=xX.len
        have iSlX:=iSlJ2.ext xX
        have q1:=adrI (i:=(p:Int)) (by omega) iSlX (by omega)
        rw [Int.toNat_natCast] at q1
        have q2:=loadI iSlX (i:=p) hp
        have e16:=fun base=>run_contains (base:=base) (x:=(shfO P).getD p 0) (i1J.ext xX)
        have hst:=bkJ_succ (P:=P) (l:=(slpM P S).1) (p:=p)
        have hbl:(bkJ P (slpM P S).1 p).length≤p:=by unfold bkJ;rw [List.length_map];exact upto_flen
        by_cases cc:(shfO P).getD p 0 ∈ (slpM P S).1
        ·rw [decide_eq_true cc] at e16
         rw [if_pos cc] at hst
         obtain ⟨tv',X3,ea,oV,hle,hE,hV1,_⟩:=snocG (base:=h.length) (t:=116) (r:=(((p:Int),0,0):Int × Int × Int)) Fc.el116 encB_sc oT (by omega) lX (by omega)
         rw [← hst] at oV
         have bsb:=fun lit=>bsFB (lit:=lit) (H:=X) (p:=(p:Int))
         have hsp:=@Nat.succ_ne_zero;repeat' (first|simp (disch:=first|exact dqc|fail) only [go_sem,↓reduceIte,hsp,r307,r44,g6,g11,g22,g305,g306,hlt4,q1,q2,e16,bsb,ea]|refine WP_drw ?_|refine cnd_intro (fun hsp=>?_) fun hsp=>?_)
         exact ⟨agq,by omega,hE J2 (Nat.le_refl _) xX,tv',rfl,oV⟩
        ·rw [decide_eq_false cc] at e16
         rw [if_neg cc,List.append_nil] at hst
         rw [← hst] at oT
         have hsp:=@Nat.succ_ne_zero;repeat' (first|simp (disch:=first|exact dqc|fail) only [go_sem,↓reduceIte,hsp,r307,r44,g6,g11,g22,g305,g306,hlt4,q1,q2,e16]|refine WP_drw ?_|refine cnd_intro (fun hsp=>?_) fun hsp=>?_)
         exact ⟨agq,by omega,xX,tv,rfl,oT⟩
       ·rintro fr5 X hA5 ⟨r307,xX,tv,r44,oT⟩
        have g6:=hA5 6 rfl
        have g11:=hA5 11 rfl
        have g22:=hA5 22 rfl
        have g305:=hA5 305 rfl
        have g306:=hA5 306 rfl
        try simp (disch:=first|exact dqc|fail) only [go_sem,↓reduceIte,c11,c22] at g6 g11 g22 g305 g306
        have hlt4:(((shfO P).length:Int)<((shfO P).length:Int))=False:=eq_false (by omega)
        have tvo:=oT.one
        have ebk:bkJ P (slpM P S).1 (shfO P).length=bks P (slpM P S).1:=rfl
        rw [ebk] at oT
        have rT:=oT.rows (by omega)
        have e17:=fun base=>run_explains (base:=base) (hL8.ext (xJ2F.trans xX)) okL rT (by omega)
        rw [(xplM_iff hc).2 s3,lft_ok hM s3.1] at e17
        have nT:=own_len oT Fc.el116 (by omega)
        rw [s4] at nT
        have nS2:=lenI (i1J.ext xX)
        have cX:=(xJ2F.trans xX).get c8
        have hsp:=@Nat.succ_ne_zero;repeat' (first|simp (disch:=first|exact dqc|fail) only [go_sem,↓reduceIte,hsp,r307,r44,g6,g11,g22,g305,g306,hlt4,cX,e17,nT,nS2,tl]|refine WP_drw ?_|refine cnd_intro (fun hsp=>?_) fun hsp=>?_)
        exact fB rfl ((xhF8.trans xJ2F).trans xX)
end F4
end Go.AM
