/-
  awake08.
-/
import Derived.Test.YtcemgempgbjbeaaGreatU19
import Derived.Test.YtcemgempgbjbeaaGreatU18
import Derived.Test.YtcemgempgbjbeaaGreatU13
import Derived.Test.YtcemgempgbjbeaaGreatU16
set_option linter.unusedSimpArgs false
set_option linter.unusedVariables false
namespace Go.AM
open Go.Proofs.Tryz
attribute [-go_sem] put_ne put_same
attribute [local go_sem ↓] put_if
theorem two_six {lit:Bool} {H:Heap} (hl:lit=false):bsA prog lit H 35 6 [(0,.int .i64 1),(1,.int .i64 2),(2,.int .i64 4),(3,.int .i64 8),(4,.int .i64 1),(5,.int .i64 2)]=some (.slice (some ⟨H.length,0,0⟩) 6 6,H++[rowB [1,2,4,8,1,2] 0]):=by
 subst hl
 simp [bsA,rowOf,Fc.el35,fillA,repCells,AVal.isN,AVal.cells,splice,rowB,ints]
theorem bs_023 {lit:Bool} {H:Heap} (hl:lit=false):bsA prog lit H 35 3 [(0,.int .i64 0),(1,.int .i64 2),(2,.int .i64 3)]=some (.slice (some ⟨H.length,0,0⟩) 3 3,H++[rowB [0,2,3] 0]):=by
 subst hl
 simp [bsA,rowOf,Fc.el35,fillA,repCells,AVal.isN,AVal.cells,splice,rowB,ints]
theorem RibAt.one' {h:Heap} {v:AVal} {R:Rib} (x:RibAt h v R):∃ a b c,v=.agg [a,b,c]∧One a∧One b∧One c:=by
 obtain ⟨fv,wv,rfl,a,b⟩:=x
 exact ⟨_,fv,wv,rfl,⟨rfl,rfl,rfl⟩,a.one,b.one⟩
theorem TblAt.one' {h:Heap} {v:AVal} {T:EyT} (x:TblAt h v T):∃ a b c,v=.agg [a,b,c]∧One a∧One b∧One c:=by
 obtain ⟨ev,lv,pv,rfl,a,b,c⟩:=x
 exact ⟨ev,lv,pv,rfl,a.one,b.one,c.one⟩
set_option maxHeartbeats 1000000 in
theorem run_awake08 {base:Nat} {h:Heap}:callL prog raw base (.fn 13 [] []) [] h=some (.bool true,h):=by
 obtain ⟨G1,eG1⟩:∃ G1,G1=h++[rowB [1,2,4,8,1,2] 0]:=⟨_,rfl⟩
 have x1:Ext h G1:=by rw [eG1];exact .app .refl
 have b1:=fun lit (hl:lit=false)=>two_six (lit:=lit) (H:=h) hl
 rw [← eG1] at b1
 have i1:Ints G1 (.slice (some ⟨h.length,0,0⟩) 6 6) [1,2,4,8,1,2]:=by rw [eG1];exact slice_row rfl rfl ⟨by simp,by decide⟩
 obtain ⟨k,s,c,hc,e2⟩:=L3.run_FewestC (base:=h.length) i1 pap8
 rw [few8] at hc
 obtain rfl:c=1:=by omega
 clear hc
 obtain ⟨G2,eG2⟩:∃ G2,G2=G1++[rowB (([1,2,4,8,1,2]:List Int).take 1) 0]:=⟨_,rfl⟩
 rw [← eG2] at e2
 have x2:Ext G1 G2:=by rw [eG2];exact .app .refl
 have e2:callL prog raw h.length (.fn 51 [] []) [.agg [.int .i64 4,.slice (some ⟨h.length,0,0⟩) 6 6]] G1=some (.tuple [.agg [.int .i64 4,.slice (some ⟨G1.length,0,0⟩) 1 1,.int .i64 k,.int .i64 s],.int .i64 0],G2):=e2
 obtain ⟨G3,eG3⟩:∃ G3,G3=G2++[L3.chB 4 (.slice (some ⟨G1.length,0,0⟩) 1 1) k s]:=⟨_,rfl⟩
 have x3:Ext G2 G3:=by rw [eG3];exact .app .refl
 have g3:G3[G2.length]?=some (L3.chB 4 (.slice (some ⟨G1.length,0,0⟩) 1 1) k s):=by rw [eG3];exact get_eq rfl
 have n1:=x1.len
 have n2:=x2.len
 have n3:=x3.len
 obtain ⟨w4,H4,e4,x4,tT⟩:=run_Two (base:=h.length) (h:=G3) (by omega)
 have n4:=x4.len
 obtain ⟨w5,H5,e5,x5,l5,rfl,o5⟩:=run_Strangers (base:=h.length) (by omega) tT two_ok
 rw [two_str] at o5
 have n5:=x5.len
 obtain ⟨w6,H6,e6,x6,tR⟩:=run_Ten (base:=h.length) (h:=H5) (by omega)
 have n6:=x6.len
 obtain ⟨w7,H7,e7,x7,u7,rfl,o7⟩:=run_Best (base:=h.length) (by omega) tR (by decide)
 rw [ten_all,ten_chk] at e7
 have o7:=o7.one
 obtain ⟨a1,a2,a3,rfl,c1,c2,c3⟩:=tR.one'
 obtain ⟨a4,a5,a6,rfl,c4,c5,c6⟩:=tT.one'
 have x37:Ext G3 H7:=x4.trans (x5.trans (x6.trans x7))
 have g37:=x37.get g3
 obtain ⟨H8,eH8⟩:∃ H8,H8=H7++[rowB [0,2,3] 0]:=⟨_,rfl⟩
 have x8:Ext H7 H8:=by rw [eH8];exact .app .refl
 have b8:=fun lit (hl:lit=false)=>bs_023 (lit:=lit) (H:=H7) hl
 rw [← eH8] at b8
 have i5:Ints H8 l5 [0,2,3]:=(own_ints o5 ⟨by simp,by decide⟩).ext (x6.trans (x7.trans x8))
 have i8:Ints H8 (.slice (some ⟨H7.length,0,0⟩) 3 3) [0,2,3]:=by rw [eH8];exact slice_row rfl rfl ⟨by simp,by decide⟩
 have eq:=fun base=>run_eqI (base:=base) i5 i8
 rw [decide_eq_true rfl] at eq
 have o5:=o5.one
 unfold L3.chB at eG3 g37
 refine callL_run func13 rfl rfl ?_
 have hsp:=@Nat.succ_ne_zero;repeat' (first|simp (disch:=first|exact dqb|fail) only [go_sem,↓reduceIte,hsp,b1,e2,← eG3,e4,e5,e6,e7,g37,b8,eq]|refine WP_drw ?_|refine cnd_intro (fun hsp=>?_) fun hsp=>?_)
 exact fB rfl (x1.trans (x2.trans (x3.trans (x37.trans x8))))
end Go.AM
namespace Go.AM
def flt (m k n:Nat):List Int:=((List.range n).filter fun t=>decide (t % m=k)).map fun t:Nat=>(t:Int)
theorem flt_zero {m k:Nat}:flt m k 0=[]:=rfl
theorem flt_hit {m k n:Nat} (h:n % m=k):flt m k (n+1)=flt m k n++[(n:Int)]:=by
 unfold flt
 rw [List.range_succ,List.filter_append,List.map_append]
 simp [h]
theorem flt_miss {m k n:Nat} (h:¬ n % m=k):flt m k (n+1)=flt m k n:=by
 unfold flt
 rw [List.range_succ,List.filter_append,List.map_append]
 simp [h]
theorem flt_len {m k n:Nat}:(flt m k n).length≤n:=by
 unfold flt
 rw [List.length_map]
 exact Nat.le_trans (List.length_filter_le _ _) (by simp)
theorem flt_mem {m k n:Nat} {x:Int}:x ∈ flt m k n ↔ ∃ t:Nat,t<n∧t % m=k∧x=(t:Int):=by
 unfold flt
 simp only [List.mem_map,List.mem_filter,List.mem_range,decide_eq_true_eq]
 exact ⟨fun ⟨t,h,e⟩=>⟨t,h.1,h.2,e.symm⟩,fun ⟨t,h1,h2,e⟩=>⟨t,⟨h1,h2⟩,e.symm⟩⟩
theorem flt_rise {m k:Nat}:∀ n,(flt m k n).Pairwise (·<·)
 | 0=>.nil
 | n+1=>by
  by_cases h:n % m=k
  ·rw [flt_hit h,List.pairwise_append]
   refine ⟨flt_rise n,by simp,fun x hx y hy=>?_⟩
   obtain ⟨t,h1,_,rfl⟩:=flt_mem.1 hx
   rw [List.mem_singleton] at hy
   omega
  ·rw [flt_miss h];exact flt_rise n
structure CleanW (W:List Wnt):Prop where
 n:W.length≤6
 ok:∀ w ∈ W,WntOk w
 cl:∀ w ∈ W,w.fl=0∧w.jn=0
theorem CleanW.rib {W:List Wnt} (h:CleanW W) {m k n:Nat} (hn:n≤12):RibOk ⟨12,flt m k n,W⟩:=by
 refine ⟨by simp only;omega,by have:=flt_len (m:=m) (k:=k) (n:=n);simp only;omega,h.n,h.ok,fun x hx=>?_,flt_rise n⟩
 obtain ⟨t,h1,_,rfl⟩:=flt_mem.1 hx
 simp only
 omega
theorem CleanW.nil {W:List Wnt} (h:CleanW W):RibOk ⟨12,[],W⟩:=h.rib (m:=1) (k:=0) (n:=0) (by omega)
theorem allE_ok {R:Rib} (h:RibOk R):allE R=valD R 0:=by
 unfold allE
 rw [if_neg (by rw [chkR_iff.2 h];simp)]
end Go.AM
namespace Go.AM
open Go.Proofs.Tryz
attribute [-go_sem] put_ne put_same
attribute [local go_sem ↓] put_if
end Go.AM
namespace Go.AM
open Go.Proofs.Tryz
attribute [-go_sem] put_ne put_same
attribute [local go_sem ↓] put_if
def rid (v:AVal):Nat:=match v with|.slice (some r) _ _=>r.id|_=>0
def isRow (y:ABlk):Prop:=∃ c e,y=⟨.cells c e true false,y.ver⟩
theorem isRow_mk {c:List AVal} {e:TypeId} {v:Nat}:isRow ⟨.cells c e true false,v⟩:=⟨c,e,rfl⟩
theorem not_row {c:List AVal} {e:TypeId} {v:Nat} {ro:Bool}:¬ isRow ⟨.cells c e false ro,v⟩:=fun ⟨c',e',h⟩=>by cases h
theorem ext_of_get {h H:Heap} (hl:h.length≤H.length) (hk:∀ (i:Nat) y,h[i]?=some y→H[i]?=some y):Ext h H:=by
 have e:H.take h.length=h:=by
  apply List.ext_getElem?
  intro i
  rw [List.getElem?_take]
  split
  ·rename_i hi
   rw [hk i h[i] (List.getElem?_eq_getElem hi),List.getElem?_eq_getElem hi]
  ·rw [List.getElem?_eq_none (by omega)]
 refine ⟨H.drop h.length,?_⟩
 conv=>lhs;rw [← List.take_append_drop h.length H,e]
def CapI (b:Nat) (H:Heap) (v:AVal) (l:List Int):Prop:=∃ id ver r,v=.slice (some ⟨id,ver,0⟩) l.length (l.length+r.length)∧H[id]?=some (rowE encI 3 (l++r) ver)∧b≤id∧0<l.length+r.length
section
variable {b base:Nat} {H H':Heap} {u v:AVal} {l:List Int}
theorem CapI.one (x:CapI b H v l):One v:=by
 obtain ⟨id,ver,r,rfl,_⟩:=x
 exact ⟨rfl,rfl,rfl⟩
theorem CapI.rows (x:CapI b H v l) (hl:l.length≤1000):Rows encI H v l:=by
 obtain ⟨id,ver,r,rfl,h1,h2,h3⟩:=x
 refine ⟨by omega,.inr (.inr ⟨⟨id,ver,0⟩,l.length+r.length,_,_,_,_,rfl,h1,?_,?_,by omega⟩)⟩
 ·rw [flat_encI,flat_encI,List.drop_zero]
  simp [ints,encI]
 ·rw [flat_encI]
  simp [ints,encI]
theorem CapI.keep (x:CapI b H v l) (hk:∀ y,H[rid v]?=some y→H'[rid v]?=some y):CapI b H' v l:=by
 obtain ⟨id,ver,r,rfl,h1,h2,h3⟩:=x
 exact ⟨id,ver,r,rfl,hk _ h1,h2,h3⟩
theorem CapI.at (x:CapI b H v l):∃ c ver,H[rid v]?=some ⟨.cells c 3 true false,ver⟩∧b≤rid v:=by
 obtain ⟨id,ver,r,rfl,h1,h2,h3⟩:=x
 exact ⟨_,_,h1,h2⟩
theorem CapI.snoc {x:Int} (hc:CapI b H u l) (hb:base≤b) (hl:l.length≤1000) :
  ∃ u' c ver,appendA prog base H 35 u (.vals [.int .i64 x])=some (u',H.set (rid u) ⟨.cells c 3 true false,ver⟩)∧CapI b (H.set (rid u) ⟨.cells c 3 true false,ver⟩) u' (l++[x])∧rid u'=rid u:=by
 obtain ⟨id,ver,r,rfl,h1,h2,h3⟩:=hc
 have hlt:=lt_of_get h1
 match r with
 | [] =>
  refine ⟨.slice (some ⟨id,ver+1,0⟩) (l.length+1) (l.length+1),flat encI (l++[x]),ver+1,?_,⟨id,ver+1,[],by simp,?_,h2,by simp⟩,rfl⟩
  ·simp only [appendA,Fc.el35,lenA,firstN]
   have hx:(l++([]:List Int))=l:=by simp
   rw [hx] at h1
   simp only [rowE] at h1
   simp [h1,flat_encI,ints_length,rid]
   simp at h3
   rw [if_neg (by omega),if_pos ⟨by omega,h3,.inl (by omega)⟩,List.take_of_length_le (by rw [ints_length];exact Nat.le_refl _)]
   exact ⟨rfl,by simp [ints]⟩
  ·show (H.set id _)[id]?=_
   rw [List.getElem?_set_self hlt]
   simp [rowE]
 | y :: r =>
  refine ⟨.slice (some ⟨id,ver,0⟩) (l.length+1) (l.length+(y :: r).length),flat encI (l++[x]++r),ver,?_,⟨id,ver,r,by simp;omega,?_,h2,by simp;omega⟩,rfl⟩
  ·simp only [appendA,Fc.el35,lenA,firstN,rowE] at *
   have e1:(flat encI (l++y :: r)).set l.length (.int .i64 x)=flat encI (l++[x]++r):=by
    rw [flat_encI,flat_encI]
    simp [ints,List.set_append_right]
   have e2:l.length<(flat encI (l++y :: r)).length:=by rw [flat_encI,ints_length];simp
   simp [storeN,ARef.add,h1,splice,rid,AVal.scalar,e1]
   rw [if_pos ⟨by omega,.inl (by omega)⟩]
  ·show (H.set id _)[id]?=_
   rw [List.getElem?_set_self hlt]
   rfl
theorem CapI.cut (hc:CapI b H u l) (hl:l ≠ []):∃ u',sliceA prog 35 u none (some (.int .i64 ((l.length:Int)-1))) none=some u'∧CapI b H u' l.dropLast∧rid u'=rid u:=by
 obtain ⟨id,ver,r,rfl,h1,h2,h3⟩:=hc
 obtain ⟨m,x,rfl⟩:∃ m x,l=m++[x]:=⟨l.dropLast,l.getLast hl,(List.dropLast_concat_getLast hl).symm⟩
 refine ⟨.slice (some ⟨id,ver,0⟩) m.length (m.length+1+r.length),?_,⟨id,ver,x :: r,by simp;omega,by simpa using h1,h2,by simp;omega⟩,rfl⟩
 have e1:(((m++[x]).length:Int)-1)=(m.length:Int):=by simp
 rw [e1]
 simp only [sliceA,Fc.ar35,Fc.el35,optB,boundI (show (0:Int)≤(m.length:Int) by omega) (show (m.length:Int)≤(((m++[x]).length+r.length:Nat):Int) by simp;omega)]
 simp [ARef.add]
end
def SetsC (b:Nat) (H:Heap) (c:List AVal) (S:List (List Int)):Prop:=S.length≤c.length∧(∀ (i:Nat) l,S[i]?=some l→∃ u,c[i]?=some u∧CapI b H u l)∧∀ (i j:Nat) u w,i<j→j<S.length→c[i]?=some u→c[j]?=some w→rid u ≠ rid w
def SetsAt (b:Nat) (H:Heap) (v:AVal) (S:List (List Int)):Prop:=(v=.slice none 0 0∧S=[]) ∨ ∃ id ver c,v=.slice (some ⟨id,ver,0⟩) S.length c.length∧H[id]?=some ⟨.cells c 35 true false,ver⟩∧b≤id∧0<c.length∧SetsC b H c S
def KpS (b sb:Nat) (H H':Heap):Prop:=H.length≤H'.length∧∀ (i:Nat) y,H[i]?=some y→i ≠ sb→(i<b ∨ ¬ isRow y)→H'[i]?=some y
section
variable {b sb base:Nat} {H H' H2:Heap} {u v:AVal} {l:List Int} {c:List AVal} {S:List (List Int)}
theorem KpS.refl:KpS b sb H H:=⟨Nat.le_refl _,fun _ _ h _ _=>h⟩
theorem KpS.trans (x:KpS b sb H H') (y:KpS b sb H' H2):KpS b sb H H2:=⟨Nat.le_trans x.1 y.1,fun i z h h1 h2=>y.2 i z (x.2 i z h h1 h2) h1 h2⟩
theorem KpS.app {T:Heap}:KpS b sb H (H++T):=⟨by simp,fun _ _ h _ _=>get_app h⟩
theorem KpS.box {k:ABlk}:KpS b sb H (H.set sb k):=⟨by simp,fun i y h h1 _=>by rw [List.getElem?_set_ne (fun q=>h1 q.symm)];exact h⟩
theorem KpS.row {i:Nat} {k y:ABlk} (hi:b≤i) (hg:H[i]?=some y) (hr:isRow y):KpS b sb H (H.set i k):=⟨by simp,fun j z h h1 h2=>by
 by_cases e:i=j
 ·subst e
  rw [hg] at h
  obtain rfl:=Option.some.inj h
  rcases h2 with h2|h2
  ·omega
  ·exact absurd hr h2
 ·rw [List.getElem?_set_ne e];exact h⟩
theorem KpS.ext {h:Heap} (x:KpS b sb H H') (e:Ext h H) (h1:h.length≤b) (h2:h.length≤sb):Ext h H':=by
 refine ext_of_get (Nat.le_trans e.len x.1) fun i y hy=>?_
 have:=lt_of_get hy
 exact x.2 i y (e.get hy) (by omega) (.inl (by omega))
theorem SetsC.one {i:Nat} {w:AVal} (x:SetsC b H c S) (hi:i<S.length) (hw:c[i]?=some w):CapI b H w (S.getD i []):=by
 obtain ⟨u,h1,h2⟩:=x.2.1 i S[i] (List.getElem?_eq_getElem hi)
 rw [hw] at h1
 obtain rfl:=Option.some.inj h1
 rwa [getD_at hi]
theorem SetsAt.keep (x:SetsAt b H v S) (hk:∀ (i:Nat) y,b≤i→H[i]?=some y→isRow y→H'[i]?=some y):SetsAt b H' v S:=by
 rcases x with x|⟨id,ver,c,rfl,h1,h2,h3,h4,h5,h6⟩
 ·exact .inl x
 ·refine .inr ⟨id,ver,c,rfl,hk _ _ h2 h1 isRow_mk,h2,h3,h4,fun i l hl=>?_,h6⟩
  obtain ⟨u,q1,q2⟩:=h5 i l hl
  refine ⟨u,q1,q2.keep fun y hy=>?_⟩
  obtain ⟨c',ver',g1,g2⟩:=q2.at
  rw [g1] at hy
  obtain rfl:=Option.some.inj hy
  exact hk _ _ g2 g1 isRow_mk
theorem SetsAt.app {T:Heap} (x:SetsAt b H v S):SetsAt b (H++T) v S:=x.keep fun _ _ _ h _=>get_app h
theorem SetsAt.box {i:Nat} {k y:ABlk} (x:SetsAt b H v S) (hg:H[i]?=some y) (hr:¬ isRow y):SetsAt b (H.set i k) v S:=x.keep fun j z _ h hz=>by
 rw [List.getElem?_set_ne]
 ·exact h
 ·rintro rfl
  rw [hg] at h
  obtain rfl:=Option.some.inj h
  exact hr hz
theorem SetsAt.one (x:SetsAt b H v S):One v:=by
 rcases x with ⟨rfl,_⟩|⟨id,ver,c,rfl,_⟩<;>exact ⟨rfl,rfl,rfl⟩
theorem SetsAt.len (x:SetsAt b H v S):lenOpA prog H' 31 v=some (.int .i64 (S.length:Int)):=by
 rcases x with ⟨rfl,rfl⟩|⟨id,ver,c,rfl,_⟩<;>simp [lenOpA,Fc.el31,lenA]
theorem SetsAt.at {i:Nat} (x:SetsAt b H v S) (hi:i<S.length):∃ id ver c u,v=.slice (some ⟨id,ver,0⟩) S.length c.length∧H[id]?=some ⟨.cells c 35 true false,ver⟩∧b≤id∧SetsC b H c S∧c[i]?=some u∧CapI b H u (S.getD i []) ∧
  indexAddrA prog 31 v (.int .i64 (i:Int))=some (.ptr (some ⟨id,ver,i⟩))∧ldB (some (false,1)) H[id]? ver i=some u∧loadP prog H 35 (.ptr (some ⟨id,ver,i⟩))=some u:=by
 rcases x with ⟨_,rfl⟩|⟨id,ver,c,rfl,h1,h2,h3,h4⟩
 ·simp at hi
 ·have hic:i<c.length:=Nat.lt_of_lt_of_le hi h4.1
  obtain ⟨u,hu⟩:∃ u,c[i]?=some u:=⟨c[i],List.getElem?_eq_getElem hic⟩
  have hld:ldB (some (false,1)) H[id]? ver i=some u:=by
   have hd:c.drop i=u :: c.drop (i+1):=by
    rw [List.drop_eq_getElem_cons hic]
    rw [List.getElem?_eq_getElem hic] at hu
    rw [Option.some.inj hu]
   simp [ldB,h1,hd,mkVal]
   omega
  refine ⟨id,ver,c,u,rfl,h1,h2,h4,hu,h4.one hi hu,?_,hld,?_⟩
  ·simp only [indexAddrA,Fc.ar31,Fc.el31]
   rw [if_pos ⟨by omega,by omega⟩]
   simp [ARef.add]
  ·rw [load_eq,Fc.ty35];exact hld
theorem SetsAt.upd {id ver i:Nat} {u u':AVal} {H1:Heap} (h2:b≤id) (h4:SetsC b H c S) (hi:i<S.length) (hu:c[i]?=some u) (hg:H1[id]?=some ⟨.cells c 35 true false,ver⟩) (ho:∀ (j:Nat) y,j ≠ rid u→H[j]?=some y→H1[j]?=some y) (hc:CapI b H1 u' l) (hr:rid u'=rid u) :
  SetsAt b (H1.set id ⟨.cells (c.set i u') 35 true false,ver⟩) (.slice (some ⟨id,ver,0⟩) S.length c.length) (S.set i l):=by
 have hlt:=lt_of_get hg
 have hic:i<c.length:=(List.getElem?_eq_some_iff.1 hu).1
 have ne:∀ {w:AVal} {m:List Int},CapI b H1 w m→rid w ≠ id:=fun {w m} q e=>by
  obtain ⟨c',ver',g1,_⟩:=q.at
  rw [e,hg] at g1
  simp at g1
 have mv:∀ {w:AVal} {m:List Int},CapI b H1 w m→CapI b (H1.set id ⟨.cells (c.set i u') 35 true false,ver⟩) w m:=fun {w m} q=>q.keep fun y hy=>by
  rw [List.getElem?_set_ne (fun e=>ne q e.symm)];exact hy
 refine .inr ⟨id,ver,c.set i u',by simp,by rw [List.getElem?_set_self hlt],h2,by simp;omega,by simpa using h4.1,fun j m hm=>?_,fun j k w z hjk hk hw hz=>?_⟩
 ·by_cases e:i=j
  ·subst e
   rw [List.getElem?_set_self (by omega)] at hm
   obtain rfl:=Option.some.inj hm
   exact ⟨u',by rw [List.getElem?_set_self hic],mv hc⟩
  ·rw [List.getElem?_set_ne e] at hm
   obtain ⟨w,q1,q2⟩:=h4.2.1 j m hm
   refine ⟨w,by rw [List.getElem?_set_ne e];exact q1,mv (q2.keep fun y hy=>ho _ _ ?_ hy)⟩
   have hjS:=(List.getElem?_eq_some_iff.1 hm).1
   rcases Nat.lt_or_gt_of_ne e with q|q
   ·exact fun e=>h4.2.2 i j u w q hjS hu q1 e.symm
   ·exact h4.2.2 j i w u q hi q1 hu
 ·rw [List.length_set] at hk
  by_cases e1:i=j
  ·subst e1
   rw [List.getElem?_set_self hic] at hw
   obtain rfl:=Option.some.inj hw
   rw [List.getElem?_set_ne (by omega)] at hz
   rw [hr]
   exact h4.2.2 _ _ _ _ hjk hk hu hz
  ·rw [List.getElem?_set_ne e1] at hw
   by_cases e2:i=k
   ·subst e2
    rw [List.getElem?_set_self hic] at hz
    obtain rfl:=Option.some.inj hz
    rw [hr]
    exact h4.2.2 _ _ _ _ hjk hk hw hu
   ·rw [List.getElem?_set_ne e2] at hz
    exact h4.2.2 _ _ _ _ hjk hk hw hz
theorem stQ_set {id ver i:Nat} {u:AVal} {K:ABlk→Heap} (hb:base≤id) (hi:i<c.length) (hu:One u):stQ base id (some ⟨.cells c 35 true false,ver⟩) ver i [u] K=some (K ⟨.cells (c.set i u) 35 true false,ver⟩):=by
 have hs:=hu.2.2
 simp [stQ,splice,hs]
 omega
end
end Go.AM
namespace Go.AM
open Go.Proofs.Tryz
attribute [-go_sem] put_ne put_same
attribute [local go_sem ↓] put_if
section
variable {b sb base:Nat} {H H':Heap} {u v:AVal} {l:List Int} {c c':List AVal} {S:List (List Int)} {x:Int}
theorem SetsC.push (h:SetsC b H c S) (hl:S.length+1≤c'.length) (h1:∀ i,i<S.length→c'[i]?=c[i]?) (h2:c'[S.length]?=some u) (h3:CapI b H' u l) (h4:∀ w m,CapI b H w m→CapI b H' w m∧rid w ≠ rid u):SetsC b H' c' (S++[l]):=by
 refine ⟨by simp;omega,fun i m hm=>?_,fun i j w z hij hj hw hz=>?_⟩
 ·have hi:=(List.getElem?_eq_some_iff.1 hm).1
  simp at hi
  by_cases e:i=S.length
  ·subst e
   simp at hm
   exact ⟨u,h2,by rw [← hm];exact h3⟩
  ·rw [List.getElem?_append_left (by omega)] at hm
   obtain ⟨w,q1,q2⟩:=h.2.1 i m hm
   exact ⟨w,by rw [h1 i (by omega)];exact q1,(h4 w m q2).1⟩
 ·simp at hj
  rw [h1 i (by omega)] at hw
  by_cases e:j=S.length
  ·subst e
   rw [h2] at hz
   obtain rfl:=Option.some.inj hz
   exact (h4 w _ (h.one (by omega) hw)).2
  ·rw [h1 j (by omega)] at hz
   exact h.2.2 i j w z hij (by omega) hw hz
theorem SetsAt.push (hS:SetsAt b H v S) (hb:base≤b) (hbh:b≤H.length) (hl:S.length≤1000) :
  ∃ v' H',appendA prog base (H++[rowB [x] 0]++[⟨.cells [.slice (some ⟨H.length,0,0⟩) 1 1] 35 true false,0⟩]) 31 v (.slice (some ⟨H.length+1,0,0⟩) 1 1)=some (v',H')∧SetsAt b H' v' (S++[[x]])∧(∀ sb,KpS b sb H H')∧One v':=by
 obtain ⟨u,eu⟩:∃ u,u=AVal.slice (some ⟨H.length,0,0⟩) 1 1:=⟨_,rfl⟩
 rw [← eu]
 obtain ⟨G0,eG0⟩:∃ G0,G0=H++[rowB [x] 0]:=⟨_,rfl⟩
 rw [← eG0]
 obtain ⟨G,eG⟩:∃ G,G=G0++[(⟨.cells [u] 35 true false,0⟩:ABlk)]:=⟨_,rfl⟩
 have x0:Ext H G0:=by rw [eG0];exact .app .refl
 have xG:Ext H G:=by rw [eG];exact x0.app
 have lG:G.length=H.length+2:=by rw [eG,eG0];simp
 have gu:G[H.length]?=some (rowE encI 3 [x] 0):=by rw [eG];exact get_app (by rw [eG0,rowE,flat_encI];exact get_eq rfl)
 have lG0:G0.length=H.length+1:=by rw [eG0];simp
 have gy:G[H.length+1]?=some ⟨.cells [u] 35 true false,0⟩:=by rw [eG];exact get_eq lG0.symm
 have cu:CapI b G u [x]:=⟨H.length,0,[],eu,gu,hbh,by simp⟩
 have ru:rid u=H.length:=by rw [eu];rfl
 have us:u.scalar=true:=by rw [eu];rfl
 have mv:∀ w m,CapI b H w m→CapI b G w m∧rid w ≠ rid u:=fun w m q=>by
  refine ⟨q.keep fun y hy=>xG.get hy,fun e=>?_⟩
  obtain ⟨c',ver',g1,_⟩:=q.at
  have:=lt_of_get g1
  omega
 rw [← eG]
 have kpG:∀ sb,KpS b sb H G:=fun sb=>by rw [eG,eG0];exact KpS.app.trans KpS.app
 rcases hS with ⟨rfl,rfl⟩|⟨id,ver,c,rfl,h1,h2,h3,h4⟩
 ·refine ⟨.slice (some ⟨G.length,0,0⟩) 1 1,G++[⟨.cells [u] 35 true false,0⟩],?_,.inr ⟨G.length,0,[u],rfl,get_eq rfl,by omega,by simp,?_⟩,?_,⟨rfl,rfl,rfl⟩⟩
  ·simp [appendA,Fc.el31,lenA,firstN,loadN,cellsAt,gy,us]
  ·refine SetsC.push (c:=[]) ⟨by simp,fun i l h=>by simp at h,fun i j u w _ h=>by simp at h⟩ (by simp) (fun i h=>by simp at h) rfl (cu.keep fun y hy=>get_app hy) (fun w m q=>⟨(mv w m q).1.keep fun y hy=>get_app hy,(mv w m q).2⟩)
  ·exact fun sb=>(kpG sb).trans KpS.app
 ·have g1:=xG.get h1
  have hlt:=lt_of_get g1
  have ne:∀ {w:AVal} {m:List Int},CapI b G w m→rid w ≠ id:=fun {w m} q e=>by
   obtain ⟨c',ver',q1,_⟩:=q.at
   rw [e,g1] at q1
   simp at q1
  have mv2:∀ {k:ABlk} {w:AVal} {m:List Int},CapI b G w m→CapI b (G.set id k) w m:=fun {k w m} q=>q.keep fun y hy=>by
   rw [List.getElem?_set_ne (fun e=>ne q e.symm)];exact hy
  have kp:∀ {k:ABlk} (sb:Nat),KpS b sb H (G.set id k):=fun {k} sb=>KpS.trans (H':=G) (kpG sb) (KpS.row h2 g1 isRow_mk)
  by_cases hr:S.length<c.length
  ·refine ⟨.slice (some ⟨id,ver,0⟩) (S.length+1) c.length,G.set id ⟨.cells (c.set S.length u) 35 true false,ver⟩,?_,.inr ⟨id,ver,c.set S.length u,by simp,by rw [List.getElem?_set_self hlt],h2,by simp;omega,?_⟩,kp,⟨rfl,rfl,rfl⟩⟩
   ·simp [appendA,Fc.el31,lenA,firstN,loadN,cellsAt,gy,us,storeN,ARef.add,g1,splice]
    rw [if_pos (by omega),if_pos ⟨by omega,.inl (by omega)⟩]
   ·exact h4.push (by simp;omega) (fun i hi=>by rw [List.getElem?_set_ne (by omega)]) (by rw [List.getElem?_set_self hr]) (mv2 cu) (fun w m q=>⟨mv2 (mv w m q).1,(mv w m q).2⟩)
  ·have ec:S.length=c.length:=Nat.le_antisymm h4.1 (by omega)
   refine ⟨.slice (some ⟨id,ver+1,0⟩) (S.length+1) (S.length+1),G.set id ⟨.cells (c++[u]) 35 true false,ver+1⟩,?_,.inr ⟨id,ver+1,c++[u],by simp [ec],by rw [List.getElem?_set_self hlt],h2,by simp,?_⟩,kp,⟨rfl,rfl,rfl⟩⟩
   ·simp [appendA,Fc.el31,lenA,firstN,loadN,cellsAt,gy,us,g1]
    rw [if_neg (by omega),if_pos ⟨by omega,by omega,.inl (by omega)⟩,ec,List.take_length]
   ·exact h4.push (by simp;omega) (fun i hi=>by rw [List.getElem?_append_left (by omega)]) (by rw [ec];simp) (mv2 cu) (fun w m q=>⟨mv2 (mv w m q).1,(mv w m q).2⟩)
theorem SetsAt.pop (hS:SetsAt b H v (S++[l])):∃ v',sliceA prog 31 v none (some (.int .i64 (((S++[l]).length:Int)-1))) none=some v'∧SetsAt b H v' S∧One v':=by
 rcases hS with ⟨_,h⟩|⟨id,ver,c,rfl,h1,h2,h3,h4⟩
 ·simp at h
 ·have hl:=h4.1
  rw [List.length_append,List.length_singleton] at hl
  refine ⟨.slice (some ⟨id,ver,0⟩) S.length c.length,?_,.inr ⟨id,ver,c,rfl,h1,h2,h3,by omega,fun i m hm=>?_,fun i j w z hij hj hw hz=>h4.2.2 i j w z hij (by simp;omega) hw hz⟩,⟨rfl,rfl,rfl⟩⟩
  ·have e1:(((S++[l]).length:Int)-1)=(S.length:Int):=by simp
   rw [e1]
   simp only [sliceA,Fc.ar31,Fc.el31,optB,boundI (show (0:Int)≤(S.length:Int) by omega) (show (S.length:Int)≤((c.length:Nat):Int) by omega)]
   simp [ARef.add]
  ·have hi:=(List.getElem?_eq_some_iff.1 hm).1
   exact h4.2.1 i m (by rw [List.getElem?_append_left hi];exact hm)
end
def PartOk (n:Nat) (S:List (List Int)):Prop:=S.flatten.length=n∧(∀ l ∈ S,l ≠ [])∧∀ l ∈ S,∀ x ∈ l,0≤x∧x<(n:Int)
theorem PartOk.le {n:Nat}:∀ {S:List (List Int)},(∀ l ∈ S,l ≠ [])→S.length≤S.flatten.length
 | [],_=>by simp
 | l :: S,h=>by
  have h1:=PartOk.le (n:=n) (S:=S) fun m hm=>h m (List.mem_cons_of_mem _ hm)
  have h2:0<l.length:=List.length_pos_iff.2 (h l (List.mem_cons_self))
  simp at h1 ⊢
  omega
theorem flat_upd:∀ {S:List (List Int)} {i:Nat} {l:List Int},i<S.length→l.length=(S.getD i []).length+1→(S.set i l).flatten.length=S.flatten.length+1
 | [],i,l,h,_=>by simp at h
 | m :: S,0,l,h,e=>by simp at e ⊢;omega
 | m :: S,i+1,l,h,e=>by
  have:=flat_upd (S:=S) (i:=i) (l:=l) (by simpa using h) (by simpa using e)
  simp at this ⊢
  omega
theorem PartOk.put {n i:Nat} {S:List (List Int)} (h:PartOk n S) (hi:i<S.length):PartOk (n+1) (S.set i (S.getD i []++[(n:Int)])):=by
 obtain ⟨h1,h2,h3⟩:=h
 refine ⟨by rw [flat_upd hi (by simp),h1],fun l hl=>?_,fun l hl x hx=>?_⟩
 ·rcases List.mem_or_eq_of_mem_set hl with q|q
  ·exact h2 l q
  ·rw [q];simp
 ·rcases List.mem_or_eq_of_mem_set hl with q|q
  ·have:=h3 l q x hx;omega
  ·rw [q] at hx
   rcases List.mem_append.1 hx with hx|hx
   ·have:=h3 _ (getD_mem' hi) x hx;omega
   ·rw [List.mem_singleton] at hx;omega
theorem PartOk.new {n:Nat} {S:List (List Int)} (h:PartOk n S):PartOk (n+1) (S++[[(n:Int)]]):=by
 obtain ⟨h1,h2,h3⟩:=h
 refine ⟨by rw [List.flatten_append];simp;simpa using h1,fun l hl=>?_,fun l hl x hx=>?_⟩
 ·rcases List.mem_append.1 hl with q|q
  ·exact h2 l q
  ·rw [List.mem_singleton] at q;rw [q];simp
 ·rcases List.mem_append.1 hl with q|q
  ·have:=h3 l q x hx;omega
  ·rw [List.mem_singleton] at q
   rw [q,List.mem_singleton] at hx
   omega
end Go.AM
namespace Go.AM
open Go.Proofs.Tryz
attribute [-go_sem] put_ne put_same
attribute [local go_sem ↓] put_if
theorem run_sort11 {base id db pb n k:Nat} {h:Heap} {T:EyT} {x:Int} (hD:EDk h id T) (ok:TOk T) (hn:T.P.length=n) (hd:h[db]?=some (pE id)) (hp:h[pb]?=some ⟨.cells [.int .i64 (k:Int)] 3 false false,0⟩) (hx:0≤x∧x<(n:Int)) (hk:k<n) :
  callL prog raw base (.fn 127 [] [.ptr (some ⟨db,0,0⟩),.ptr (some ⟨pb,0,0⟩)]) [.int .i64 x] h=some (.bool (mtB T x.toNat k),h):=by
 obtain ⟨i,rfl⟩:=Int.eq_ofNat_of_zero_le hx.1
 have hc:=fun base=>run_match (base:=base) (i:=i) (k:=k) hD ok (by omega) (by omega)
 rw [Int.toNat_natCast]
 refine callL_run func127 rfl rfl ?_
 have hsp:=@Nat.succ_ne_zero;repeat' (first|simp (disch:=first|exact dqb|fail) only [go_sem,↓reduceIte,hsp,hd,hp,hc]|refine WP_drw ?_|refine cnd_intro (fun hsp=>?_) fun hsp=>?_)
 exact fB rfl
abbrev stB (v:AVal):ABlk:=⟨.cells [v] 31 false false,0⟩
def putV (db sb pb mb:Nat):AVal:=.fn 125 [] [.ptr (some ⟨db,0,0⟩),.ptr (some ⟨sb,0,0⟩),.ptr (some ⟨pb,0,0⟩),.ptr (some ⟨mb,0,0⟩)]
structure PutIn (h0:Heap) (b id db sb pb mb:Nat):Prop where
 h:h0.length≤b∧h0.length≤sb
 s:sb<b
 d:db<b∧db ≠ sb
 p:pb<b∧pb ≠ sb
 m:mb<b∧mb ≠ sb
def PutAt (H:Heap) (id db sb pb mb:Nat) (most:Int):Prop:=H[db]?=some (pE id)∧H[pb]?=some ⟨.cells [putV db sb pb mb] 132 false false,0⟩∧H[mb]?=some ⟨.cells [.int .i64 most] 3 false false,0⟩
theorem PutAt.keep {h0 H H':Heap} {b id db sb pb mb:Nat} {most:Int} (x:PutAt H id db sb pb mb most) (i:PutIn h0 b id db sb pb mb) (k:KpS b sb H H'):PutAt H' id db sb pb mb most :=
 ⟨k.2 _ _ x.1 i.d.2 (.inl i.d.1),k.2 _ _ x.2.1 i.p.2 (.inl i.p.1),k.2 _ _ x.2.2 i.m.2 (.inl i.m.1)⟩
theorem set_back {S:List (List Int)} {i:Nat} {x:Int} (hi:i<S.length):(S.set i (S.getD i []++[x])).set i (((S.set i (S.getD i []++[x])).getD i []).dropLast)=S:=by
 rw [List.getD_eq_getElem?_getD (l:=S.set _ _),List.getElem?_set_self hi]
 simp [List.getD_eq_getElem?_getD,List.getElem?_eq_getElem hi]
theorem stT20 {base:Nat} {l:List Oper} {s:St} {Q:AExit→St→Prop}:WP prog raw base (.region 7 l.toArray true) s Q=WPS prog raw base (.region 7 l.toArray true) s Q:=WP_stop
attribute [local go_sem ↓ 3000] stT20
set_option maxHeartbeats 4000000 in
theorem run_put {base b id db sb pb mb:Nat} {h0:Heap} {T:EyT} {most:Int} (hb:base≤b) (hsb:base≤sb) (hD:EDk h0 id T) (ok:TOk T) (hin:PutIn h0 b id db sb pb mb) (hm:0≤most∧most≤100) :
  ∀ (d:Nat) {k:Nat} {S:List (List Int)} {v:AVal} {H:Heap},k+d=T.P.length→b≤H.length→Ext h0 H→PutAt H id db sb pb mb most→H[sb]?=some (stB v)→SetsAt b H v S→PartOk k S →
  Ret prog raw base (putV db sb pb mb) [.int .i64 (k:Int)] H (fun w H'=>∃ r v' S',w=.bool r∧KpS b sb H H'∧H'[sb]?=some (stB v')∧SetsAt b H' v' S'∧(r=false→S'=S)∧(r=true→PartOk T.P.length S')∧((T.P.length:Int)≤most→r=true)):=by
 have hP9:=ok.nP
 intro d
 induction d with
 | zero =>
  intro k S v H hk hbH hE hA hs hS hPt
  obtain ⟨a1,a2,a3⟩:=hA
  obtain rfl:k=T.P.length:=by omega
  obtain ⟨G,eG⟩:∃ G,G=H++[(⟨.cells [.int .i64 (T.P.length:Int)] 3 false false,0⟩:ABlk)]:=⟨_,rfl⟩
  have xG:Ext H G:=by rw [eG];exact .app .refl
  have gk:G[H.length]?=some ⟨.cells [.int .i64 (T.P.length:Int)] 3 false false,0⟩:=by rw [eG];exact get_eq rfl
  have ga:=xG.get a1
  obtain ⟨ev,lv,pv,gi,_,_,hP⟩:=hD.ext (hE.trans xG)
  have op:=hP.one
  have nP:=hP.len (P:=prog) Fc.el25
  refine ret_raw func125 rfl (by kernel_rfl) ?_
  have hsp:=@Nat.succ_ne_zero;repeat' (first|simp (disch:=first|exact dqb|fail) only [go_sem,↓reduceIte,hsp,← eG,gk,ga,gi,nP,eq_self]|refine WP_drw ?_|refine cnd_intro (fun hsp=>?_) fun hsp=>?_)
  exact ⟨true,v,S,rfl,by rw [eG];exact KpS.app,xG.get hs,by rw [eG];exact hS.app,(fun q=>by cases q),fun _=>hPt,fun _=>rfl⟩
 | succ d ih =>
  intro k S v H hk hbH hE hA hs hS hPt
  obtain ⟨G,eG⟩:∃ G,G=H++[(⟨.cells [.int .i64 (k:Int)] 3 false false,0⟩:ABlk)]:=⟨_,rfl⟩
  have xG:Ext H G:=by rw [eG];exact .app .refl
  have lG:G.length=H.length+1:=by rw [eG];simp
  have kG:KpS b sb H G:=by rw [eG];exact KpS.app
  have gk:G[H.length]?=some ⟨.cells [.int .i64 (k:Int)] 3 false false,0⟩:=by rw [eG];exact get_eq rfl
  have gsG:=xG.get hs
  have hSG:SetsAt b G v S:=by rw [eG];exact hS.app
  obtain ⟨a1,a2,a3⟩:=hA.keep hin kG
  have hEG:=hE.trans xG
  obtain ⟨ev,lv,pv,gi,_,_,hP⟩:=hD.ext hEG
  have op:=hP.one
  have ov:=hS.one
  have nP:=hP.len (P:=prog) Fc.el25
  have t1:((k:Int)=(T.P.length:Int))=False:=eq_false (by omega)
  have nS:=fun H'=>hS.len (H':=H')
  have hSk:S.length≤k:=by have:=PartOk.le (n:=k) (S:=S) hPt.2.1;have:=hPt.1;omega
  refine ret_raw func125 rfl (by kernel_rfl) ?_
  have hsp:=@Nat.succ_ne_zero;repeat' (first|simp (disch:=first|exact dqb|fail) only [go_sem,↓reduceIte,hsp,← eG,gk,a1,gi,nP,t1,gsG,nS]|refine WP_drw ?_|refine cnd_intro (fun hsp=>?_) fun hsp=>?_)
  refine WP_count [(6,7),(18,56)] 0 S.length (Nat.zero_le _) (fun _ i fr h'=>fr 18=.int .i64 (i:Int)∧∃ w,KpS b sb G h'∧h'[sb]?=some (stB w)∧SetsAt b h' w S) ?_ ?_ ?_
  ·exact ⟨by (simp (disch:=first|exact dqb|fail) only [go_sem,↓reduceIte,Int.natCast_zero];first|done|rfl),v,.refl,gsG,hSG⟩
  ·rintro i fr K hi0 hi hAg ⟨r18,w,kK,gs,hSK⟩
   have p1:=hAg 1 rfl
   have p2:=hAg 2 rfl
   have p3:=hAg 3 rfl
   have p4:=hAg 4 rfl
   have p5:=hAg 5 rfl
   have p17:=hAg 17 rfl
   try simp (disch:=first|exact dqb|fail) only [go_sem,↓reduceIte] at p1 p2 p3 p4 p5 p17
   have hlt:((i:Int)<(S.length:Int))=True:=eq_true (by omega)
   have ow:=hSK.one
   have lK:=kK.1
   have xK:Ext h0 K:=kK.ext hEG hin.h.1 hin.h.2
   obtain ⟨b1,b2,b3⟩:=(show PutAt G id db sb pb mb most from ⟨a1,a2,a3⟩).keep hin kK
   have bk:K[H.length]?=some ⟨.cells [.int .i64 (k:Int)] 3 false false,0⟩:=kK.2 _ _ gk (by have:=hin.s;omega) (.inr not_row)
   obtain ⟨oid,over,c,u,ew,go,hbo,hC,hcu,hcap,had,hld,hldP⟩:=hSK.at hi
   obtain ⟨m,em⟩:∃ m,m=S.getD i []:=⟨_,rfl⟩
   rw [← em] at hcap
   have hmS:m ∈ S:=by rw [em];exact getD_mem' hi
   have hmx:=hPt.2.2 m hmS
   have hml:m.length≤500:=by
    have:=(List.sublist_flatten_of_mem hmS).length_le
    have:=hPt.1
    omega
   have hIu:Ints K u m:=(hcap.rows (by omega)).ints fun x hx=>by have:=hmx x hx;omega
   have ou:=hcap.one
   have ev:=fun base=>every_YI (base:=base) (g:=.fn 127 [] [.ptr (some ⟨db,0,0⟩),.ptr (some ⟨H.length,0,0⟩)]) (fun x=>mtB T x.toNat k) hIu (fun base Z x hx=>run_sort11 (n:=T.P.length) ((hD.ext xK).ext (.app .refl)) ok rfl (get_app b1) (get_app bk) (by have:=hmx x hx;omega) (by omega)) ⟨rfl,rfl,rfl⟩
   cases hev:(m.all fun x=>mtB T x.toNat k) with
   | false =>
    rw [hev] at ev
    have hsp:=@Nat.succ_ne_zero;repeat' (first|simp (disch:=first|exact dqb|fail) only [go_sem,↓reduceIte,hsp,r18,p1,p2,p3,p4,p5,p17,hlt,gs,had,hld,ev]|refine WP_drw ?_|refine cnd_intro (fun hsp=>?_) fun hsp=>?_)
    exact ⟨agq,by omega,w,kK,rfl,hSK⟩
   | true =>
    rw [hev] at ev
    have hsp:=@Nat.succ_ne_zero;repeat' (first|simp (disch:=first|exact dqb|fail) only [go_sem,↓reduceIte,hsp,r18,p1,p2,p3,p4,p5,p17,hlt,gs,had,hld,ev]|refine WP_drw ?_|refine cnd_intro (fun hsp=>?_) fun hsp=>?_)
    refine WPS_go ?_
    obtain ⟨u',rc,rv,ea,hcap',hru⟩:=hcap.snoc (x:=(k:Int)) hb (by omega)
    obtain ⟨cu,vu,gu,hbu⟩:=hcap.at
    obtain ⟨K1,eK1⟩:∃ K1,K1=K.set (rid u) ⟨.cells rc 3 true false,rv⟩:=⟨_,rfl⟩
    rw [← eK1] at ea hcap'
    have ne1:rid u ≠ oid:=fun e=>by
     rw [e,go] at gu
     simp at gu
    have ne2:rid u ≠ sb:=by have:=hin.s;omega
    have ne3:rid u ≠ H.length:=fun e=>by
     rw [e,bk] at gu
     simp at gu
    have lK1:K1.length=K.length:=by rw [eK1,List.length_set]
    have gs1:K1[sb]?=some (stB w):=by rw [eK1,List.getElem?_set_ne ne2];exact gs
    have go1:K1[oid]?=some ⟨.cells c 35 true false,over⟩:=by rw [eK1,List.getElem?_set_ne ne1];exact go
    have ou':=hcap'.one
    have st:=fun (KK:ABlk→Heap)=>stQ_set (base:=base) (id:=oid) (ver:=over) (K:=KK) (by omega) (List.getElem?_eq_some_iff.1 hcu).1 ou'
    obtain ⟨K2,eK2⟩:∃ K2,K2=K1.set oid ⟨.cells (c.set i u') 35 true false,over⟩:=⟨_,rfl⟩
    have k1:KpS b sb K K1:=by rw [eK1];exact KpS.row hbu gu isRow_mk
    have k2:KpS b sb K1 K2:=by rw [eK2];exact KpS.row hbo go1 isRow_mk
    have hS2:SetsAt b K2 w (S.set i (m++[(k:Int)])):=by
     rw [eK2,ew]
     exact SetsAt.upd hbo hC hi hcu go1 (fun j y hj hy=>by rw [eK1,List.getElem?_set_ne (fun e=>hj e.symm)];exact hy) hcap' hru
    have kG2:KpS b sb G K2:=kK.trans (k1.trans k2)
    have gs2:K2[sb]?=some (stB w):=by rw [eK2,List.getElem?_set_ne (by have:=hin.s;omega)];exact gs1
    have lK2:K2.length=K.length:=by rw [eK2,List.length_set,lK1]
    have bk2:K2[H.length]?=some ⟨.cells [.int .i64 (k:Int)] 3 false false,0⟩:=kG2.2 _ _ gk (by have:=hin.s;omega) (.inr not_row)
    have hA2:=(show PutAt G id db sb pb mb most from ⟨a1,a2,a3⟩).keep hin kG2
    have hA2':=hA2
    obtain ⟨_,b22,_⟩:=hA2'
    obtain ⟨w3,H3,e3,r,v3,S3,rfl,k3,gs3,hS3,f1,f2,f3⟩:=ih (k:=k+1) (S:=S.set i (m++[(k:Int)])) (v:=w) (H:=K2) (by omega) (by omega) (kG2.ext hEG hin.h.1 hin.h.2) hA2 gs2 hS2 (by rw [em];exact hPt.put hi)
    have hlw:refsLow K.length w:=by rw [ew];exact refsLow_slice (lt_of_get go)
    have e3':callL prog raw base (.fn 125 [] [.ptr (some ⟨db,0,0⟩),.ptr (some ⟨sb,0,0⟩),.ptr (some ⟨pb,0,0⟩),.ptr (some ⟨mb,0,0⟩)]) [.int .i64 ((k:Int)+1)] K2=some (.bool r,H3):=e3
    have b22':K2[pb]?=some ⟨.cells [.fn 125 [] [.ptr (some ⟨db,0,0⟩),.ptr (some ⟨sb,0,0⟩),.ptr (some ⟨pb,0,0⟩),.ptr (some ⟨mb,0,0⟩)]] 132 false false,0⟩:=b22
    refine WP_loose [⟨0,31,2,⟨sb,0,0⟩,w,10⟩] (by kernel_rfl) (by kernel_rfl) ⟨hlw,trivial⟩ fun KK hK=>?_
    iterate 11
     rw [TRS_cons]
     refine ⟨by first|(simp (disch:=first|exact dqb|fail) only [go_sem,↓reduceIte,r18,p1,p2,p3,p4,p5,p17,gs,had,hld,bk,ea,gs1,go1,st,← eK2,ldsQ_cons,ldsQ_nil,grdQ_cons,grdQ_nil,if_true,Nat.reduceLeDiff];done)|exact trivial,?_⟩
     simp (disch:=first|exact dqb|fail) only [go_sem,↓reduceIte,r18,p1,p2,p3,p4,p5,p17,gs,had,hld,bk,ea,gs1,go1,st,← eK2]
    rw [TRS_nil]
    refine ⟨by first|(simp (disch:=first|exact dqb|fail) only [go_sem,↓reduceIte,r18,p1,p2,p3,p4,p5,p17,gs,had,hld,bk,ea,gs1,go1,st,← eK2,ldsQ_cons,ldsQ_nil,grdQ_cons,grdQ_nil,if_true,Nat.reduceLeDiff];done)|exact trivial,?_⟩
    subst hK
    have kG3:=kG2.trans k3
    cases r with
    | true =>
     have hsp:=@Nat.succ_ne_zero;repeat' (first|simp (disch:=first|exact dqb|fail) only [go_sem,↓reduceIte,hsp,p1,p2,p3,p4,p5,p17,b22',bk2,e3']|refine WP_drw ?_|refine cnd_intro (fun hsp=>?_) fun hsp=>?_)
     exact ⟨true,v3,S3,rfl,kG.trans kG3,gs3,hS3,(fun q=>by cases q),f2,fun _=>rfl⟩
    | false =>
     have eS3:=f1 rfl
     rw [eS3] at hS3
     have hi3:i<(S.set i (m++[(k:Int)])).length:=by rw [List.length_set];exact hi
     obtain ⟨oid3,over3,c3,u3,ew3,go3,hbo3,hC3,hcu3,hcap3,had3,hld3,_⟩:=hS3.at hi3
     have e3m:(S.set i (m++[(k:Int)])).getD i []=m++[(k:Int)]:=by rw [List.getD_eq_getElem?_getD,List.getElem?_set_self hi];rfl
     have n3:=(hcap3.rows (by rw [e3m];simp;omega)).len (P:=prog) Fc.el35
     obtain ⟨u4,e4,hcap4,hru4⟩:=hcap3.cut (by rw [e3m];simp)
     have o3:=hS3.one
     have ou3:=hcap3.one
     have ou4:=hcap4.one
     have st3:=fun (KK:ABlk→Heap)=>stQ_set (base:=base) (id:=oid3) (ver:=over3) (K:=KK) (by omega) (List.getElem?_eq_some_iff.1 hcu3).1 ou4
     obtain ⟨K4,eK4⟩:∃ K4,K4=H3.set oid3 ⟨.cells (c3.set i u4) 35 true false,over3⟩:=⟨_,rfl⟩
     have k4:KpS b sb H3 K4:=by rw [eK4];exact KpS.row hbo3 go3 isRow_mk
     have gs4:K4[sb]?=some (stB v3):=by rw [eK4,List.getElem?_set_ne (by have:=hin.s;omega)];exact gs3
     have hS4:SetsAt b K4 v3 S:=by
      have:=SetsAt.upd hbo3 hC3 hi3 hcu3 go3 (fun j y _ hy=>hy) hcap4 hru4
      rw [em,set_back hi,List.length_set] at this
      rw [eK4,ew3,List.length_set]
      exact this
     rw [e3m,List.length_append,List.length_singleton] at n3 e4
     have hsp:=@Nat.succ_ne_zero;repeat' (first|simp (disch:=first|exact dqb|fail) only [go_sem,↓reduceIte,hsp,r18,p1,p2,p3,p4,p5,p17,b22',bk2,e3',gs3,had3,hld3,hcu3,n3,e4,go3,st3,← eK4]|refine WP_drw ?_|refine cnd_intro (fun hsp=>?_) fun hsp=>?_)
     exact ⟨agq,by omega,v3,kG3.trans k4,gs4,hS4⟩
  ·rintro fr K hAg ⟨r18,w,kK,gs,hSK⟩
   have p1:=hAg 1 rfl
   have p2:=hAg 2 rfl
   have p3:=hAg 3 rfl
   have p4:=hAg 4 rfl
   have p5:=hAg 5 rfl
   have p17:=hAg 17 rfl
   try simp (disch:=first|exact dqb|fail) only [go_sem,↓reduceIte] at p1 p2 p3 p4 p5 p17
   have hlt:((S.length:Int)<(S.length:Int))=False:=eq_false (by omega)
   have ow:=hSK.one
   have lK:=kK.1
   have nK:=fun H'=>hSK.len (H':=H')
   obtain ⟨b1,b2,b3⟩:=(show PutAt G id db sb pb mb most from ⟨a1,a2,a3⟩).keep hin kK
   have bk:K[H.length]?=some ⟨.cells [.int .i64 (k:Int)] 3 false false,0⟩:=kK.2 _ _ gk (by have:=hin.s;omega) (.inr not_row)
   by_cases c1:(S.length:Int)=most
   ·have t2:((S.length:Int)=most)=True:=eq_true c1
    have hsp:=@Nat.succ_ne_zero;repeat' (first|simp (disch:=first|exact dqb|fail) only [go_sem,↓reduceIte,hsp,r18,p1,p2,p3,p4,p5,p17,hlt,gs,nK,b3,t2]|refine WP_drw ?_|refine cnd_intro (fun hsp=>?_) fun hsp=>?_)
    exact ⟨false,w,S,rfl,kG.trans kK,by first|rfl|exact gs,hSK,fun _=>rfl,(fun q=>by cases q),fun q=>by omega⟩
   ·have t2:((S.length:Int)=most)=False:=eq_false c1
    obtain ⟨v5,H5,e5,hS5,k5,o5⟩:=hSK.push (x:=(k:Int)) hb (by omega) (by omega)
    have bL:∀ {lit:Bool} {A:Heap} {n:Nat},bsA prog lit A 31 1 [(0,.slice (some ⟨n,0,0⟩) 1 1)]=some (.slice (some ⟨A.length,0,0⟩) 1 1,A++[⟨.cells [.slice (some ⟨n,0,0⟩) 1 1] 35 true false,0⟩]):=fun {lit A n}=>by
     simp [bsA,rowOf,Fc.el31,fillA,repCells,AVal.isN,AVal.cells,splice,AVal.bare]
    have bk1:(K++[rowB [(k:Int)] 0])[H.length]?=some ⟨.cells [.int .i64 (k:Int)] 3 false false,0⟩:=get_app bk
    have gs5:H5[sb]?=some (stB w):=(k5 (sb+1)).2 _ _ gs (by omega) (.inl hin.s)
    obtain ⟨H6,eH6⟩:∃ H6,H6=H5.set sb (stB v5):=⟨_,rfl⟩
    have l5:=(k5 sb).1
    have l6:H6.length=H5.length:=by rw [eH6,List.length_set]
    have k6:KpS b sb G H6:=kK.trans ((k5 sb).trans (by rw [eH6];exact KpS.box))
    have gs6:H6[sb]?=some (stB v5):=by rw [eH6,List.getElem?_set_self (lt_of_get gs5)]
    have hS6:SetsAt b H6 v5 (S++[[(k:Int)]]):=by rw [eH6];exact hS5.box gs5 not_row
    have bk6:H6[H.length]?=some ⟨.cells [.int .i64 (k:Int)] 3 false false,0⟩:=k6.2 _ _ gk (by have:=hin.s;omega) (.inr not_row)
    have hA6:=(show PutAt G id db sb pb mb most from ⟨a1,a2,a3⟩).keep hin k6
    have hA6':=hA6
    obtain ⟨_,b62,_⟩:=hA6'
    obtain ⟨w7,H7,e7,r,v7,S7,rfl,k7,gs7,hS7,f1,f2,f3⟩:=ih (k:=k+1) (S:=S++[[(k:Int)]]) (v:=v5) (H:=H6) (by omega) (by omega) (k6.ext hEG hin.h.1 hin.h.2) hA6 gs6 hS6 hPt.new
    have e7':callL prog raw base (.fn 125 [] [.ptr (some ⟨db,0,0⟩),.ptr (some ⟨sb,0,0⟩),.ptr (some ⟨pb,0,0⟩),.ptr (some ⟨mb,0,0⟩)]) [.int .i64 ((k:Int)+1)] H6=some (.bool r,H7):=e7
    have b62':H6[pb]?=some ⟨.cells [.fn 125 [] [.ptr (some ⟨db,0,0⟩),.ptr (some ⟨sb,0,0⟩),.ptr (some ⟨pb,0,0⟩),.ptr (some ⟨mb,0,0⟩)]] 132 false false,0⟩:=b62
    cases r with
    | true =>
     have hsp:=@Nat.succ_ne_zero;repeat' (first|simp (disch:=first|exact dqb|fail) only [go_sem,↓reduceIte,hsp,r18,p1,p2,p3,p4,p5,p17,hlt,gs,nK,b3,t2,bk,bsrI,bL,e5,gs5,← eH6,b62',bk6,e7']|refine WP_drw ?_|refine cnd_intro (fun hsp=>?_) fun hsp=>?_)
     exact ⟨true,v7,S7,rfl,kG.trans (k6.trans k7),gs7,hS7,(fun q=>by cases q),f2,fun _=>rfl⟩
    | false =>
     have eS7:=f1 rfl
     rw [eS7] at hS7
     have n7:=fun H'=>hS7.len (H':=H')
     obtain ⟨v8,e8,hS8,o8⟩:=hS7.pop
     rw [List.length_append,List.length_singleton] at e8
     simp only [List.length_append,List.length_singleton] at n7
     have o7:=hS7.one
     have l7:=lt_of_get gs7
     have hsp:=@Nat.succ_ne_zero;repeat' (first|simp (disch:=first|exact dqb|fail) only [go_sem,↓reduceIte,hsp,r18,p1,p2,p3,p4,p5,p17,hlt,gs,nK,b3,t2,bk,bsrI,bL,e5,gs5,← eH6,b62',bk6,e7',gs7,n7,e8]|refine WP_drw ?_|refine cnd_intro (fun hsp=>?_) fun hsp=>?_)
     exact ⟨false,v8,S,rfl,kG.trans (k6.trans (k7.trans KpS.box)),by first|rfl|rw [List.getElem?_set_self l7],hS8.box gs7 not_row,fun _=>rfl,(fun q=>by cases q),f3⟩
end Go.AM
namespace Go.AM
open Go.Proofs.Tryz
attribute [-go_sem] put_ne put_same
attribute [local go_sem ↓] put_if
set_option maxHeartbeats 1000000 in
theorem run_sorting {base id:Nat} {h:Heap} {T:EyT} {most:Int} (hb:base≤h.length) (hD:EDk h id T) (ok:TOk T) (hm:0≤most∧most≤100) :
  Ret prog raw base (.fn 46 [] []) [.ptr (some ⟨id,0,0⟩),.int .i64 most] h (fun w H=>Ext h H∧∃ v S r,w=.tuple [v,.bool r]∧SetsAt h.length H v S∧(r=true→PartOk T.P.length S)∧((T.P.length:Int)≤most→r=true)):=by
 obtain ⟨G,eG⟩:∃ G,G=h++[pE id]++[(⟨.cells [.int .i64 most] 3 false false,0⟩:ABlk)]++[stB (.slice none 0 0)]++[⟨.cells [putV h.length (h.length+1+1) (h.length+1+1+1) (h.length+1)] 132 false false,0⟩]:=⟨_,rfl⟩
 have xG:Ext h G:=by rw [eG];exact .app (.app (.app (.app .refl)))
 have lG:G.length=h.length+4:=by rw [eG];simp
 have g0:G[h.length]?=some (pE id):=by rw [eG];exact get_app (get_app (get_app (get_eq rfl)))
 have g1:G[h.length+1]?=some ⟨.cells [.int .i64 most] 3 false false,0⟩:=by rw [eG];exact get_app (get_app (get_eq (by simp)))
 have g2:G[h.length+1+1]?=some (stB (.slice none 0 0)):=by rw [eG];exact get_app (get_eq (by simp))
 have g3:G[h.length+1+1+1]?=some ⟨.cells [putV h.length (h.length+1+1) (h.length+1+1+1) (h.length+1)] 132 false false,0⟩:=by rw [eG];exact get_eq (by simp)
 obtain ⟨w,H,e1,r,v,S,rfl,k1,gs,hS,f1,f2,f3⟩:=run_put (base:=base) (b:=h.length+4) (id:=id) (db:=h.length) (sb:=h.length+1+1) (pb:=h.length+1+1+1) (mb:=h.length+1) (h0:=h) (T:=T) (most:=most) (by omega) (by omega) hD ok ⟨by omega,by omega,by omega,by omega,by omega⟩ hm T.P.length (k:=0) (S:=[]) (v:=.slice none 0 0) (H:=G) (by omega) (by omega) xG ⟨g0,g3,g1⟩ g2 (.inl ⟨rfl,rfl⟩) ⟨rfl,by simp,by simp⟩
 have ov:=hS.one
 unfold putV at e1 eG g3
 rw [Int.natCast_zero] at e1
 refine ret_raw func46 rfl (by kernel_rfl) ?_
 have hsp:=@Nat.succ_ne_zero;repeat' (first|simp (disch:=first|exact dqb|fail) only [go_sem,↓reduceIte,hsp,← eG,g3,e1,gs]|refine WP_drw ?_|refine cnd_intro (fun hsp=>?_) fun hsp=>?_)
 refine ⟨k1.ext xG (by omega) (by omega),v,S,r,rfl,?_,f2,f3⟩
 rcases hS with q|⟨oid,over,c,e,q1,q2,q3,q4⟩
 ·exact .inl q
 ·refine .inr ⟨oid,over,c,e,q1,by omega,q3,q4.1,fun i l hl=>?_,q4.2.2⟩
  obtain ⟨u,a,id',ver',r',b1,b2,b3,b4⟩:=q4.2.1 i l hl
  exact ⟨u,a,id',ver',r',b1,b2,by omega,b4⟩
set_option maxHeartbeats 1000000 in
theorem run_Sort {base:Nat} {h:Heap} {v:AVal} {T:EyT} (hb:base≤h.length) (hT:TblAt h v T) (ok:TOk T) :
  Ret prog raw base (.fn 9 [] []) [v] h (fun w H=>Ext h H∧∃ x S,w=.tuple [x,.int .i64 0]∧SetsAt h.length H x S∧PartOk T.P.length S):=by
 obtain ⟨G,eG⟩:∃ G,G=h++[⟨.cells (match v with|.agg l=>l|_=>[]) 27 false false,0⟩]:=⟨_,rfl⟩
 have hT':=hT
 obtain ⟨ev,lv,pv,rfl,hE,hL,hP⟩:=hT'
 have o1:=hE.one
 have o2:=hL.one
 have o3:=hP.one
 have hP9:=ok.nP
 simp only at eG
 have xG:Ext h G:=by rw [eG];exact .app .refl
 have g0:G[h.length]?=some (tbB ev lv pv):=by rw [eG];exact get_eq rfl
 have lG:G.length=h.length+1:=by rw [eG];simp
 obtain ⟨w1,H1,e1,x1,id,rfl,hD,hid⟩:=run_yopened (base:=base) (h:=G) (by omega) (hT.ext xG) ok
 have l1:=x1.len
 have g1:=x1.get g0
 have n1:=((hP.ext xG).ext x1).len (P:=prog) Fc.el25
 refine ret_raw func9 rfl (by kernel_rfl) ?_
 have hsp:=@Nat.succ_ne_zero;repeat' (first|simp (disch:=first|exact dqb|fail) only [go_sem,↓reduceIte,hsp,← eG,g0,e1,g1,n1]|refine WP_drw ?_|refine cnd_intro (fun hsp=>?_) fun hsp=>?_)
 refine WP_count [(6,9),(22,33)] 0 (T.P.length+1) (Nat.zero_le _) (fun _ j fr h'=>fr 22=.int .i64 (j:Int)∧j≤T.P.length∧Ext H1 h') ?_ ?_ ?_
 ·exact ⟨by (simp (disch:=first|exact dqb|fail) only [go_sem,↓reduceIte,Int.natCast_zero];first|done|rfl),by omega,.refl⟩
 ·rintro j fr K hj0 hj hAg ⟨r22,hjn,xK⟩
  have p2:=hAg 2 rfl
  have p3:=hAg 3 rfl
  have p4:=hAg 4 rfl
  have p21:=hAg 21 rfl
  try simp (disch:=first|exact dqb|fail) only [go_sem,↓reduceIte] at p2 p3 p4 p21
  have hlt:((j:Int)<(T.P.length:Int)+1)=True:=eq_true (by omega)
  have lK:=xK.len
  obtain ⟨w2,H2,e2,x2,x,S,r,rfl,hS,f1,f2⟩:=run_sorting (base:=base) (h:=K) (most:=(j:Int)) (by omega) (hD.ext xK) ok (by omega)
  have ox:=hS.one
  cases r with
  | true =>
   have hsp:=@Nat.succ_ne_zero;repeat' (first|simp (disch:=first|exact dqb|fail) only [go_sem,↓reduceIte,hsp,r22,p2,p3,p4,p21,hlt,e2]|refine WP_drw ?_|refine cnd_intro (fun hsp=>?_) fun hsp=>?_)
   refine ⟨xG.trans (x1.trans (xK.trans x2)),x,S,rfl,?_,f1 rfl⟩
   rcases hS with q|⟨oid,over,c,e,q1,q2,q3,q4⟩
   ·exact .inl q
   ·refine .inr ⟨oid,over,c,e,q1,by omega,q3,q4.1,fun i l hl=>?_,q4.2.2⟩
    obtain ⟨u,a,id',ver',r',b1,b2,b3,b4⟩:=q4.2.1 i l hl
    exact ⟨u,a,id',ver',r',b1,b2,by omega,b4⟩
  | false =>
   have hne:j ≠ T.P.length:=fun e=>by have:=f2 (by omega);cases this
   have hsp:=@Nat.succ_ne_zero;repeat' (first|simp (disch:=first|exact dqb|fail) only [go_sem,↓reduceIte,hsp,r22,p2,p3,p4,p21,hlt,e2]|refine WP_drw ?_|refine cnd_intro (fun hsp=>?_) fun hsp=>?_)
   exact ⟨agq,by omega,by omega,xK.trans x2⟩
 ·rintro fr K hAg ⟨r22,hjn,xK⟩
  omega
end Go.AM
namespace Go.AM
open Go.Proofs.Tryz
theorem dqd {p:Prop} (h:p:=by first|exact Nat.ne_of_beq_eq_false rfl|assumption|(apply asOne;(first|exact One.int|exact One.bool|assumption|exact Ints.one (by assumption)|exact Rows.one (by assumption)|exact Own.one (by assumption)|exact One.lit ⟨rfl,rfl,rfl⟩))|(apply asSp;(repeat first|assumption|apply SpAt.set|(refine SpAt.new ?_ (by (first|rfl|(simp only [List.length_append,List.length_cons,List.length_nil,List.length_set];done)|(simp only [List.length_append,List.length_cons,List.length_nil,List.length_set];omega))))|apply SpAt.app|apply Bytes.app);done)|(apply asBytes;(repeat first|assumption|apply Bytes.app);done)|(apply asInts;(repeat first|assumption|exact ints_nil|apply Ints.app);done)|(apply asRows;(repeat first|assumption|exact Rows.nil|apply Rows.app);done)|(apply asScal;(first|apply allS1|apply allS2|apply allS3|apply allS4)<;>(first|exact One.int|exact One.bool|assumption|exact Ints.one (by assumption)|exact Rows.one (by assumption)|exact Own.one (by assumption)|exact One.lit ⟨rfl,rfl,rfl⟩))|exact litT rfl|exact litF rfl|omega|(simp only [List.length_append,List.length_cons,List.length_nil,List.length_set,List.length_reverse];first|done|omega)|fail):p:=h
attribute [-go_sem] put_ne put_same
attribute [local go_sem ↓] put_if
def shU (silk:List Int) (k:Nat) (n:Int):Shd:=(up silk k n,up silk (k+1) n,up silk (k+1+1) n)
theorem shU_in {silk:List Int} {k:Nat} {n:Int} (h:0≤n):shIn n (shU silk k n):=by
 have h1:=up_bd (silk:=silk) (k:=k) h
 have h2:=up_bd (silk:=silk) (k:=k+1) h
 have h3:=up_bd (silk:=silk) (k:=k+1+1) h
 exact ⟨⟨h1.1,h1.2.1⟩,⟨h2.1,h2.2.1⟩,h3.1,h3.2.1⟩
abbrev shZ:ABlk:=⟨.cells (ints (lst (fun _=>(0:Int)) 3)) 128 false false,0⟩
theorem st3S {base:Nat} {h:Heap} {id ver o:Nat} {x y z:AVal}:stP prog base h 128 (.ptr (some ⟨id,ver,o⟩)) (.agg [x,y,z])=(stQ base id (h[id]?) ver o [x,y,z] (fun b=>h.set id b)).map fun h'=>(undefA,h'):=stP_ptr Fc.ty128 rfl
theorem stQ_z {base id:Nat} {x y z:Int} {K:ABlk→Heap}:stQ base id (some shZ) 0 0 [.int .i64 x,.int .i64 y,.int .i64 z] K=some (K (shB (x,y,z))):=by
 have e:ints (lst (fun _=>(0:Int)) 3)=[.int .i64 0,.int .i64 0,.int .i64 0]:=rfl
 simp [stQ,e,splice,AVal.scalar,AVal.bare]
theorem run_shade {base id k:Nat} {h:Heap} {v:AVal} {silk:List Int} {n:Int} (hS:SpAt h id v silk k) (hk:k≤1000) (hn:0≤n∧n≤1000) :
  callL prog raw base (.fn 43 [] []) [.ptr (some ⟨id,0,0⟩),.int .i64 n] h=some (shV (shU silk k n),h.set id (spB v silk (k+1+1+1))):=by
 have hid:=lt_of_get hS.1
 obtain ⟨G,eG⟩:∃ G,G=h++[shZ]:=⟨_,rfl⟩
 have hSG:SpAt G id v silk k:=by rw [eG];exact hS.app
 have lG:G.length=h.length+1:=by rw [eG];simp
 have g0:G[h.length]?=some shZ:=by rw [eG];exact get_eq rfl
 have q0:SpE h id v silk k G:=by rw [eG];exact (SpE.refl hS).app
 have e1:=fun base=>run_upto (base:=base) (n:=n) hSG (by omega) (by omega)
 obtain ⟨G1,eG1⟩:∃ G1,G1=G.set id (spB v silk (k+1)):=⟨_,rfl⟩
 rw [← eG1] at e1
 have q1:SpE h id v silk (k+1) G1:=by rw [eG1];exact q0.step hid
 have e2:=fun base=>run_upto (base:=base) (n:=n) (q1.at hS) (by omega) (by omega)
 obtain ⟨G2,eG2⟩:∃ G2,G2=G1.set id (spB v silk (k+1+1)):=⟨_,rfl⟩
 rw [← eG2] at e2
 have q2:SpE h id v silk (k+1+1) G2:=by rw [eG2];exact q1.step hid
 have e3:=fun base=>run_upto (base:=base) (n:=n) (q2.at hS) (by omega) (by omega)
 obtain ⟨G3,eG3⟩:∃ G3,G3=G2.set id (spB v silk (k+1+1+1)):=⟨_,rfl⟩
 rw [← eG3] at e3
 have q3:SpE h id v silk (k+1+1+1) G3:=by rw [eG3];exact q2.step hid
 have g3:G3[h.length]?=some shZ:=by rw [eG3,List.getElem?_set_ne (by omega),eG2,List.getElem?_set_ne (by omega),eG1,List.getElem?_set_ne (by omega)];exact g0
 have l3:=lt_of_get g3
 have st:=fun (x y z:Int) (K:ABlk→Heap)=>stQ_z (base:=h.length) (id:=h.length) (x:=x) (y:=y) (z:=z) (K:=K)
 unfold shZ at eG g0 g3 st
 refine callL_run func43 rfl rfl ?_
 have hsp:=@Nat.succ_ne_zero;repeat' (first|simp (disch:=first|exact dqd|fail) only [go_sem,↓reduceIte,hsp,← eG,e1,e2,e3,bd3S,g3,st3S,st]|refine WP_drw ?_|refine cnd_intro (fun hsp=>?_) fun hsp=>?_)
 have x:SpE h id v silk (k+1+1+1) (G3.set h.length (shB (shU silk k n))):=Ext.set q3 (by rw [List.length_set];exact Nat.le_refl _)
 exact set_fin (v:=shV (shU silk k n)) rfl x
end Go.AM
