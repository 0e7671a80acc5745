/-
  CutSmall: all that is asked about a ribbon, the example with one number changed.
-/
import Derived.Test.YtikgghhceolaeaaGreatU21
import Derived.Test.YtikgghhceolaeaaGreatU22
import Derived.Test.YtikgghhceolaeaaGreatU24
import Derived.Test.YtikgghhceolaeaaGreatU25
import Derived.Test.YtikgghhceolaeaaGreatU26
set_option linter.unusedSimpArgs false
set_option linter.unusedVariables false
namespace Go.AM
open Go.Proofs.Tryz
attribute [-go_sem] put_ne put_same
attribute [local go_sem ↓] put_if
set_option maxHeartbeats 1000000 in
theorem run_asked {base:Nat} {h:Heap} {v0 v1 v4 v5:AVal} {x y:Int} (hA:RibN 1048576 h v0) (hC:CutV h v1) (hx:-9223372036854775808≤x∧x<9223372036854775808) (hP:CtsN 1048576 h v4) (hV:IntsN 1048576 h v5) :
  callL prog raw base (.fn 20 [] []) [v0,v1,.int .i64 x,.int .i64 y,v4,v5] h=some (.bool true,h):=by
 obtain ⟨R,hR0,hn1,hn2⟩:=id hA
 obtain ⟨fv,wv,e0,hF,hW⟩:=hR0
 obtain ⟨c,e1⟩:=id hC
 obtain ⟨p,hP0,_⟩:=id hP
 obtain ⟨l,hV0,_⟩:=id hV
 have o1:=hF.one
 have o2:=hW.one
 have o3:=hP0.one
 have o4:=hV0.one
 subst e0 e1
 obtain ⟨G,eG⟩:∃ G,G=h++[ribB R.L fv wv]++[cutB c]:=⟨_,rfl⟩
 have xG:Ext h G:=by rw [eG];exact .app (.app .refl)
 have g1:G[h.length]?=some (ribB R.L fv wv):=by rw [eG];exact get_app (get_eq rfl)
 have g2:G[h.length+1]?=some (cutB c):=by rw [eG];exact get_eq (by simp)
 have AG:RibN 1048576 G (.agg [.int .i64 R.L,fv,wv]):=hA.ext xG
 have PG:CtsN 1048576 G v4:=⟨p,hP0.ext xG,by assumption⟩
 have VG:IntsN 1048576 G v5:=⟨l,hV0.ext xG,by assumption⟩
 have c1:=fun base=>run_CutRibbons (base:=base) AG (v1:=.agg [.int .i64 c.w,.int .i64 c.f,.bool c.j]) (v2:=.int .i64 x) ⟨c,rfl⟩ ⟨x,rfl⟩
 have c2:=fun base=>run_CutPlans (base:=base) AG PG
 have c3:=fun base=>run_CutMost (base:=base) AG
 have c4:=fun base=>run_CutValues (base:=base) AG VG
 have c5:=fun base=>run_CutFaults (base:=base) AG (v1:=.int .i64 x) ⟨x,rfl,hx.1,hx.2⟩
 have c6:=fun base=>run_CutWants (base:=base) AG (v1:=.int .i64 y) ⟨y,rfl⟩
 unfold ribB cutB at eG
 unfold ribB at g1
 unfold cutB at g2
 by_cases c9:R.L > 9
 ·have t9:(R.L > 9)=True:=eq_true c9
  refine callL_run func20 rfl rfl ?_
  have hsp:=@Nat.succ_ne_zero;repeat' (first|simp (disch:=first|exact dq|fail) only [go_sem,↓reduceIte,hsp,← eG,g1,g2,c1,c2,c3,c4,c5,t9]|refine WP_drw ?_|refine cnd_intro (fun hsp=>?_) fun hsp=>?_)
  exact fB rfl xG
 ·have t9:(R.L > 9)=False:=eq_false c9
  refine callL_run func20 rfl rfl ?_
  have hsp:=@Nat.succ_ne_zero;repeat' (first|simp (disch:=first|exact dq|fail) only [go_sem,↓reduceIte,hsp,← eG,g1,g2,c1,c2,c3,c4,c5,t9,c6]|refine WP_drw ?_|refine cnd_intro (fun hsp=>?_) fun hsp=>?_)
  exact fB rfl xG
theorem run_TenX {base:Nat} {h:Heap} (hb:base≤h.length):Ret prog raw base (.fn 19 [] []) [.slice none 0 0] h (fun w H=>Ext h H∧∃ F W,w=.agg [.int .i64 10,.slice (some ⟨F,0,0⟩) 2 2,.slice (some ⟨W,0,0⟩) 2 2]∧H[F]?=some (rowB [3,5] 0)∧H[W]?=some (rowE encW 50 [⟨4,10,3,1,1⟩,⟨3,6,1,0,2⟩] 0)∧h.length≤F∧F<W):=by
 obtain ⟨G,eG⟩:∃ G,G=h++[ribB 0 (.slice none 0 0) (.slice none 0 0)]:=⟨_,rfl⟩
 have xG:Ext h G:=by rw [eG];exact .app .refl
 have gG:G[h.length]?=some (ribB 0 (.slice none 0 0) (.slice none 0 0)):=by rw [eG];exact get_eq rfl
 have lG:G.length=h.length+1:=by rw [eG];simp
 obtain ⟨H1,eH1⟩:∃ H1,H1=G++[rowB [3,5] 0]:=⟨_,rfl⟩
 have x1:Ext G H1:=by rw [eH1];exact .app .refl
 have g1:H1[G.length]?=some (rowB [3,5] 0):=by rw [eH1];exact get_eq rfl
 have l1:H1.length=h.length+2:=by rw [eH1];simp [lG]
 obtain ⟨H2,eH2⟩:∃ H2,H2=H1++[rowE encW 50 [⟨4,10,3,1,1⟩,⟨3,6,1,0,2⟩] 0]:=⟨_,rfl⟩
 have x2:Ext H1 H2:=by rw [eH2];exact .app .refl
 have g2:H2[H1.length]?=some (rowE encW 50 [⟨4,10,3,1,1⟩,⟨3,6,1,0,2⟩] 0):=by rw [eH2];exact get_eq rfl
 have l2:H2.length=h.length+3:=by rw [eH2];simp [l1]
 have g02:=(x1.trans x2).get gG
 have b1:=fun lit (hl:lit=false)=>bs2I (lit:=lit) (H:=G) (a:=3) (b:=5) hl
 rw [← eH1] at b1
 have b2:=fun lit=>bs2W (lit:=lit) (H:=H1) (a:=⟨4,10,3,1,1⟩) (b:=⟨3,6,1,0,2⟩)
 rw [← eH2] at b2
 have ap:=app_non (base:=base) (id:=G.length) (n:=2) (H:=H1) g1 rfl
 unfold ribB at eG gG g02
 refine ret_raw func19 rfl (by kernel_rfl) ?_
 have hsp:=@Nat.succ_ne_zero;repeat' (first|simp (disch:=first|exact dq|fail) only [go_sem,↓reduceIte,hsp,← eG,b1,ap,b2,g02]|refine WP_drw ?_|refine cnd_intro (fun hsp=>?_) fun hsp=>?_)
 have xf:Ext h (H2.set h.length (ribB 10 (.slice (some ⟨G.length,0,0⟩) 2 2) (.slice (some ⟨H1.length,0,0⟩) 2 2))):=Ext.set ((xG.trans x1).trans x2) (Nat.le_refl _)
 refine ⟨xf,_,_,rfl,?_,?_,by omega,by omega⟩
 ·rw [List.getElem?_set_ne (by omega)];exact x2.get g1
 ·rw [List.getElem?_set_ne (by omega)];exact g2
def upd (f:Nat→Int) (i:Nat) (n:Int):Nat→Int:=fun k=>if k=i then n else f k
def dfl:Nat→Int:=fun k=>[10,3,4,10,3,1,2,0,1,4,1,0,6,17,10].getD k 0
def intB1 (a:Int):ABlk:=⟨.cells [.int .i64 a] 3 false false,0⟩
structure TnA (H:Heap) (f:Nat→Int) (j:Bool) (F W N:Nat):Prop where
 gR:H[N]?=some (ribB (f 0) (.slice (some ⟨F,0,0⟩) 2 2) (.slice (some ⟨W,0,0⟩) 2 2))
 gF:H[F]?=some (rowB [f 1,5] 0)
 gW:H[W]?=some (rowE encW 50 [⟨f 2,f 3,f 4,f 5,1⟩,⟨3,6,1,0,f 6⟩] 0)
 gC:H[N+1]?=some (cutB ⟨f 7,f 8,j⟩)
 gX:H[N+2]?=some (intB1 (f 9))
 gY:H[N+3]?=some (intB1 (f 10))
 gP:H[N+4]?=some (rowE encC 57 [⟨0,0,true⟩,⟨f 11,f 12,false⟩] 0)
 gV:H[N+5]?=some (rowB [f 13,17,16,14,12,10,f 14,6,0,0,0] 0)
 lo:F<W∧W<N
def tgt (F W N:Nat):Nat→ARef
 | 0=>⟨N,0,0⟩|1=>⟨F,0,0⟩|2=>⟨W,0,0⟩|3=>⟨W,0,1⟩|4=>⟨W,0,2⟩|5=>⟨W,0,3⟩|6=>⟨W,0,9⟩|7=>⟨N+1,0,0⟩
 | 8=>⟨N+1,0,1⟩|9=>⟨N+2,0,0⟩|10=>⟨N+3,0,0⟩|11=>⟨N+4,0,3⟩|12=>⟨N+4,0,4⟩|13=>⟨N+5,0,0⟩|_=>⟨N+5,0,6⟩
theorem st_cell {H:Heap} {id ver o base:Nat} {c:List AVal} {e:TypeId} {row:Bool} {n:Int} (hg:H[id]?=some ⟨.cells c e row false,ver⟩) (ho:o<c.length) (hb:base≤id) :
  stP prog base H 3 (.ptr (some ⟨id,ver,o⟩)) (.int .i64 n)=some (undefA,H.set id ⟨.cells (c.set o (.int .i64 n)) e row false,ver⟩):=by
 rw [Fc.st3 ⟨rfl,rfl,rfl⟩,hg,stQ_own hb (by simp;omega) (by simp [AVal.scalar])]
 rfl
set_option maxHeartbeats 2000000 in
theorem TnA.store {H:Heap} {f:Nat→Int} {j:Bool} {F W N base i:Nat} {n:Int} (s:TnA H f j F W N) (hb:base≤F) (hi:i<15) :
  ∃ H',stP prog base H 3 (.ptr (some (tgt F W N i))) (.int .i64 n)=some (undefA,H')∧TnA H' (upd f i n) j F W N∧H'.length=H.length∧∀ G,G.length≤F→Ext G H→Ext G H':=by
 obtain ⟨gR,gF,gW,gC,gX,gY,gP,gV,lo⟩:=s
 have l0:=lt_of_get gR
 have l1:=lt_of_get gF
 have l2:=lt_of_get gW
 have l3:=lt_of_get gC
 have l4:=lt_of_get gX
 have l5:=lt_of_get gY
 have l6:=lt_of_get gP
 have l7:=lt_of_get gV
 rcases (by omega:i=0 ∨ i=1 ∨ i=2 ∨ i=3 ∨ i=4 ∨ i=5 ∨ i=6 ∨ i=7 ∨ i=8 ∨ i=9 ∨ i=10 ∨ i=11 ∨ i=12 ∨ i=13 ∨ i=14) with e|e|e|e|e|e|e|e|e|e|e|e|e|e|e<;>subst e
 iterate 1 exact ⟨_,st_cell gR (by simp [ints]) (by omega),⟨by rw [List.getElem?_set_self l0];rfl,by rw [List.getElem?_set_ne (by omega)];exact gF,by rw [List.getElem?_set_ne (by omega)];exact gW,by rw [List.getElem?_set_ne (by omega)];exact gC,by rw [List.getElem?_set_ne (by omega)];exact gX,by rw [List.getElem?_set_ne (by omega)];exact gY,by rw [List.getElem?_set_ne (by omega)];exact gP,by rw [List.getElem?_set_ne (by omega)];exact gV,lo⟩,by simp,fun G hG x=>x.set (by omega)⟩
 iterate 1 exact ⟨_,st_cell gF (by simp [ints]) (by omega),⟨by rw [List.getElem?_set_ne (by omega)];exact gR,by rw [List.getElem?_set_self l1];rfl,by rw [List.getElem?_set_ne (by omega)];exact gW,by rw [List.getElem?_set_ne (by omega)];exact gC,by rw [List.getElem?_set_ne (by omega)];exact gX,by rw [List.getElem?_set_ne (by omega)];exact gY,by rw [List.getElem?_set_ne (by omega)];exact gP,by rw [List.getElem?_set_ne (by omega)];exact gV,lo⟩,by simp,fun G hG x=>x.set (by omega)⟩
 iterate 5 exact ⟨_,st_cell gW (by simp [flat,encW]) (by omega),⟨by rw [List.getElem?_set_ne (by omega)];exact gR,by rw [List.getElem?_set_ne (by omega)];exact gF,by rw [List.getElem?_set_self l2];rfl,by rw [List.getElem?_set_ne (by omega)];exact gC,by rw [List.getElem?_set_ne (by omega)];exact gX,by rw [List.getElem?_set_ne (by omega)];exact gY,by rw [List.getElem?_set_ne (by omega)];exact gP,by rw [List.getElem?_set_ne (by omega)];exact gV,lo⟩,by simp,fun G hG x=>x.set (by omega)⟩
 iterate 2 exact ⟨_,st_cell gC (by simp [ints]) (by omega),⟨by rw [List.getElem?_set_ne (by omega)];exact gR,by rw [List.getElem?_set_ne (by omega)];exact gF,by rw [List.getElem?_set_ne (by omega)];exact gW,by rw [List.getElem?_set_self l3];rfl,by rw [List.getElem?_set_ne (by omega)];exact gX,by rw [List.getElem?_set_ne (by omega)];exact gY,by rw [List.getElem?_set_ne (by omega)];exact gP,by rw [List.getElem?_set_ne (by omega)];exact gV,lo⟩,by simp,fun G hG x=>x.set (by omega)⟩
 iterate 1 exact ⟨_,st_cell gX (by simp [ints]) (by omega),⟨by rw [List.getElem?_set_ne (by omega)];exact gR,by rw [List.getElem?_set_ne (by omega)];exact gF,by rw [List.getElem?_set_ne (by omega)];exact gW,by rw [List.getElem?_set_ne (by omega)];exact gC,by rw [List.getElem?_set_self l4];rfl,by rw [List.getElem?_set_ne (by omega)];exact gY,by rw [List.getElem?_set_ne (by omega)];exact gP,by rw [List.getElem?_set_ne (by omega)];exact gV,lo⟩,by simp,fun G hG x=>x.set (by omega)⟩
 iterate 1 exact ⟨_,st_cell gY (by simp [ints]) (by omega),⟨by rw [List.getElem?_set_ne (by omega)];exact gR,by rw [List.getElem?_set_ne (by omega)];exact gF,by rw [List.getElem?_set_ne (by omega)];exact gW,by rw [List.getElem?_set_ne (by omega)];exact gC,by rw [List.getElem?_set_ne (by omega)];exact gX,by rw [List.getElem?_set_self l5];rfl,by rw [List.getElem?_set_ne (by omega)];exact gP,by rw [List.getElem?_set_ne (by omega)];exact gV,lo⟩,by simp,fun G hG x=>x.set (by omega)⟩
 iterate 2 exact ⟨_,st_cell gP (by simp [flat,encC]) (by omega),⟨by rw [List.getElem?_set_ne (by omega)];exact gR,by rw [List.getElem?_set_ne (by omega)];exact gF,by rw [List.getElem?_set_ne (by omega)];exact gW,by rw [List.getElem?_set_ne (by omega)];exact gC,by rw [List.getElem?_set_ne (by omega)];exact gX,by rw [List.getElem?_set_ne (by omega)];exact gY,by rw [List.getElem?_set_self l6];rfl,by rw [List.getElem?_set_ne (by omega)];exact gV,lo⟩,by simp,fun G hG x=>x.set (by omega)⟩
 iterate 2 exact ⟨_,st_cell gV (by simp [ints]) (by omega),⟨by rw [List.getElem?_set_ne (by omega)];exact gR,by rw [List.getElem?_set_ne (by omega)];exact gF,by rw [List.getElem?_set_ne (by omega)];exact gW,by rw [List.getElem?_set_ne (by omega)];exact gC,by rw [List.getElem?_set_ne (by omega)];exact gX,by rw [List.getElem?_set_ne (by omega)];exact gY,by rw [List.getElem?_set_ne (by omega)];exact gP,by rw [List.getElem?_set_self l7];rfl,lo⟩,by simp,fun G hG x=>x.set (by omega)⟩
def rng63 (n:Int):Prop:=-9223372036854775808≤n∧n<9223372036854775808
theorem sm_of {l:List Int} (h1:l.length<1073741824) (h:∀ n ∈ l,rng63 n):Small l:=⟨by omega,h⟩
theorem TnA.rib {H:Heap} {f:Nat→Int} {j:Bool} {F W N:Nat} (s:TnA H f j F W N) (hr:∀ k,rng63 (f k)):RibN 1048576 H (.agg [.int .i64 (f 0),.slice (some ⟨F,0,0⟩) 2 2,.slice (some ⟨W,0,0⟩) 2 2]) :=
 ⟨⟨f 0,[f 1,5],[⟨f 2,f 3,f 4,f 5,1⟩,⟨3,6,1,0,f 6⟩]⟩,⟨_,_,rfl,ints_rowB s.gF (sm_of (by simp) fun x hx=>by
  simp only [List.mem_cons,List.not_mem_nil,or_false] at hx
  rcases hx with rfl|rfl
  ·exact hr 1
  ·exact ⟨by decide,by decide⟩) rfl,Rows.own s.gW rfl (by simp)⟩,by simp,by simp⟩
theorem TnA.plan {H:Heap} {f:Nat→Int} {j:Bool} {F W N:Nat} (s:TnA H f j F W N):CtsN 1048576 H (.slice (some ⟨N+4,0,0⟩) 2 2):=⟨_,Rows.own s.gP rfl (by simp),by simp⟩
theorem TnA.vals {H:Heap} {f:Nat→Int} {j:Bool} {F W N:Nat} (s:TnA H f j F W N) (hr:∀ k,rng63 (f k)):IntsN 1048576 H (.slice (some ⟨N+5,0,0⟩) 11 11) :=
 ⟨_,ints_rowB s.gV (sm_of (by simp) fun x hx=>by
  simp only [List.mem_cons,List.not_mem_nil,or_false] at hx
  rcases hx with rfl|rfl|rfl|rfl|rfl|rfl|rfl|rfl|rfl|rfl|rfl
  ·exact hr 13
  iterate 5 exact ⟨by decide,by decide⟩
  ·exact hr 14
  iterate 4 exact ⟨by decide,by decide⟩) rfl,by simp⟩
theorem dfl_rng (k:Nat):rng63 (dfl k):=by
 by_cases h:k<15
 ·have:∀ k:Fin 15,-9223372036854775808≤dfl k∧dfl k<9223372036854775808:=by decide
  exact this ⟨k,h⟩
 ·unfold rng63 dfl
  rw [List.getD_eq_getElem?_getD,List.getElem?_eq_none (by simp;omega)]
  exact ⟨by decide,by decide⟩
theorem upd_rng {f:Nat→Int} {i:Nat} {n:Int} (hf:∀ k,rng63 (f k)) (hn:rng63 n):∀ k,rng63 (upd f i n k):=fun k=>by
 unfold upd
 split
 ·exact hn
 ·exact hf k
end Go.AM
namespace Go.AM
section
variable {bad bad':Nat→Bool} {j:Bool} {lg:Int} {u:Nat}
end
def tlR (R:Rib) (u:Nat):Rib:=⟨R.L-u,(R.F.filter fun y=>decide ((u:Int)≤y)).map (·-(u:Int)),R.W⟩
section
variable {R:Rib} {u x:Nat}
end
end Go.AM
namespace Go.AM
structure WntLe (w w':Wnt):Prop where
 lg:w'.lg=w.lg
 pr:w.pr≤w'.pr
 off:w'.off≤w.off
 fl:w.fl≤w'.fl
 jn:w.jn≤w'.jn
end Go.AM
namespace Go.AM
section
variable {R:Rib} {x:Nat}
end
end Go.AM
namespace Go.AM
open Go.Proofs.Tryz
def limL:List (List Int):=[[0,1,6,9,10,11,60,61],[-1,0,2,4,5,6,10],[0,1,3,5,60,61],[-1,0,9,11,100,101],[-1,0,1,20,21],[-1,0,2,4,5],[-1,0,2,4,5],[-1,0,1,2],[-1,0,2,9,10],[-1,0,3,5,9,10],[-1,0,1,2],[-1,0,1,2],[-1,0,4,5,6,9,10],[-10001,-10000,16,17,18,10000,10001],[-1,0,9,10,11]]
def limC (n:Nat):List AVal:=[.slice (some ⟨n,0,0⟩) 8 8,.slice (some ⟨n+1,0,0⟩) 7 7,.slice (some ⟨n+2,0,0⟩) 6 6,.slice (some ⟨n+3,0,0⟩) 6 6,.slice (some ⟨n+4,0,0⟩) 5 5,.slice (some ⟨n+5,0,0⟩) 5 5,.slice (some ⟨n+6,0,0⟩) 5 5,.slice (some ⟨n+7,0,0⟩) 4 4,.slice (some ⟨n+8,0,0⟩) 5 5,.slice (some ⟨n+9,0,0⟩) 6 6,.slice (some ⟨n+10,0,0⟩) 4 4,.slice (some ⟨n+11,0,0⟩) 4 4,.slice (some ⟨n+12,0,0⟩) 7 7,.slice (some ⟨n+13,0,0⟩) 7 7,.slice (some ⟨n+14,0,0⟩) 5 5]
theorem lim_at {n i:Nat} (hi:i<15):(limC n)[i]?=some (.slice (some ⟨n+i,0,0⟩) (limL.getD i []).length (limL.getD i []).length):=by
 rcases (by omega:i=0 ∨ i=1 ∨ i=2 ∨ i=3 ∨ i=4 ∨ i=5 ∨ i=6 ∨ i=7 ∨ i=8 ∨ i=9 ∨ i=10 ∨ i=11 ∨ i=12 ∨ i=13 ∨ i=14) with e|e|e|e|e|e|e|e|e|e|e|e|e|e|e<;>subst e<;>rfl
theorem lim_len {i:Nat} (hi:i<15):0<(limL.getD i []).length∧(limL.getD i []).length≤8:=by
 have:∀ i:Fin 15,0<(limL.getD i []).length∧(limL.getD i []).length≤8:=by decide
 exact this ⟨i,hi⟩
theorem lim_small {i:Nat} (hi:i<15):Small (limL.getD i []):=by
 refine ⟨by have:=(lim_len hi).2;omega,?_⟩
 have:∀ i:Fin 15,∀ x ∈ limL.getD i [],-9223372036854775808≤x∧x<9223372036854775808:=by decide
 exact this ⟨i,hi⟩
theorem lim_row {H h:Heap} (e:H=h++limL.map fun l=>rowB l 0) {i:Nat} (hi:i<15):H[h.length+i]?=some (rowB (limL.getD i []) 0):=by
 rw [e,List.getElem?_append_right (by omega),show h.length+i-h.length=i by omega,List.getElem?_map,List.getD_eq_getElem?_getD]
 have:limL[i]?=some ((limL[i]?).getD []):=by rw [List.getElem?_eq_getElem (show i<limL.length from hi)];rfl
 rw [this];rfl
theorem bsI4 {lit:Bool} {H:Heap} {x0 x1 x2 x3:Int} (hl:lit=false):bsA prog lit H 32 4 [(0,.int .i64 x0),(1,.int .i64 x1),(2,.int .i64 x2),(3,.int .i64 x3)]=some (.slice (some ⟨H.length,0,0⟩) 4 4,H++[rowB [x0,x1,x2,x3] 0]):=by
 subst hl;simp [bsA,rowOf,Fc.el32,fillA,repCells,AVal.isN,AVal.cells,splice,rowB,ints]
theorem bsI5 {lit:Bool} {H:Heap} {x0 x1 x2 x3 x4:Int} (hl:lit=false):bsA prog lit H 32 5 [(0,.int .i64 x0),(1,.int .i64 x1),(2,.int .i64 x2),(3,.int .i64 x3),(4,.int .i64 x4)]=some (.slice (some ⟨H.length,0,0⟩) 5 5,H++[rowB [x0,x1,x2,x3,x4] 0]):=by
 subst hl;simp [bsA,rowOf,Fc.el32,fillA,repCells,AVal.isN,AVal.cells,splice,rowB,ints]
theorem bsI6 {lit:Bool} {H:Heap} {x0 x1 x2 x3 x4 x5:Int} (hl:lit=false):bsA prog lit H 32 6 [(0,.int .i64 x0),(1,.int .i64 x1),(2,.int .i64 x2),(3,.int .i64 x3),(4,.int .i64 x4),(5,.int .i64 x5)]=some (.slice (some ⟨H.length,0,0⟩) 6 6,H++[rowB [x0,x1,x2,x3,x4,x5] 0]):=by
 subst hl;simp [bsA,rowOf,Fc.el32,fillA,repCells,AVal.isN,AVal.cells,splice,rowB,ints]
theorem bsI7 {lit:Bool} {H:Heap} {x0 x1 x2 x3 x4 x5 x6:Int} (hl:lit=false):bsA prog lit H 32 7 [(0,.int .i64 x0),(1,.int .i64 x1),(2,.int .i64 x2),(3,.int .i64 x3),(4,.int .i64 x4),(5,.int .i64 x5),(6,.int .i64 x6)]=some (.slice (some ⟨H.length,0,0⟩) 7 7,H++[rowB [x0,x1,x2,x3,x4,x5,x6] 0]):=by
 subst hl;simp [bsA,rowOf,Fc.el32,fillA,repCells,AVal.isN,AVal.cells,splice,rowB,ints]
theorem bsI8 {lit:Bool} {H:Heap} {x0 x1 x2 x3 x4 x5 x6 x7:Int} (hl:lit=false):bsA prog lit H 32 8 [(0,.int .i64 x0),(1,.int .i64 x1),(2,.int .i64 x2),(3,.int .i64 x3),(4,.int .i64 x4),(5,.int .i64 x5),(6,.int .i64 x6),(7,.int .i64 x7)]=some (.slice (some ⟨H.length,0,0⟩) 8 8,H++[rowB [x0,x1,x2,x3,x4,x5,x6,x7] 0]):=by
 subst hl;simp [bsA,rowOf,Fc.el32,fillA,repCells,AVal.isN,AVal.cells,splice,rowB,ints]
theorem bsI11 {lit:Bool} {H:Heap} {x0 x1 x2 x3 x4 x5 x6 x7 x8 x9 x10:Int} (hl:lit=false):bsA prog lit H 32 11 [(0,.int .i64 x0),(1,.int .i64 x1),(2,.int .i64 x2),(3,.int .i64 x3),(4,.int .i64 x4),(5,.int .i64 x5),(6,.int .i64 x6),(7,.int .i64 x7),(8,.int .i64 x8),(9,.int .i64 x9),(10,.int .i64 x10)]=some (.slice (some ⟨H.length,0,0⟩) 11 11,H++[rowB [x0,x1,x2,x3,x4,x5,x6,x7,x8,x9,x10] 0]):=by
 subst hl;simp [bsA,rowOf,Fc.el32,fillA,repCells,AVal.isN,AVal.cells,splice,rowB,ints]
theorem bsS15 {lit:Bool} {H:Heap} {r0 r1 r2 r3 r4 r5 r6 r7 r8 r9 r10 r11 r12 r13 r14:ARef} {n0 n1 n2 n3 n4 n5 n6 n7 n8 n9 n10 n11 n12 n13 n14 k0 k1 k2 k3 k4 k5 k6 k7 k8 k9 k10 k11 k12 k13 k14:Nat} (hl:lit=false) :
  bsA prog lit H 66 15 [(0,.slice (some r0) n0 k0),(1,.slice (some r1) n1 k1),(2,.slice (some r2) n2 k2),(3,.slice (some r3) n3 k3),(4,.slice (some r4) n4 k4),(5,.slice (some r5) n5 k5),(6,.slice (some r6) n6 k6),(7,.slice (some r7) n7 k7),(8,.slice (some r8) n8 k8),(9,.slice (some r9) n9 k9),(10,.slice (some r10) n10 k10),(11,.slice (some r11) n11 k11),(12,.slice (some r12) n12 k12),(13,.slice (some r13) n13 k13),(14,.slice (some r14) n14 k14)] =
   some (.slice (some ⟨H.length,0,0⟩) 15 15,H++[⟨.cells [.slice (some r0) n0 k0,.slice (some r1) n1 k1,.slice (some r2) n2 k2,.slice (some r3) n3 k3,.slice (some r4) n4 k4,.slice (some r5) n5 k5,.slice (some r6) n6 k6,.slice (some r7) n7 k7,.slice (some r8) n8 k8,.slice (some r9) n9 k9,.slice (some r10) n10 k10,.slice (some r11) n11 k11,.slice (some r12) n12 k12,.slice (some r13) n13 k13,.slice (some r14) n14 k14] 32 true false,0⟩]):=by
 subst hl
 simp [bsA,rowOf,Fc.el66,fillA,repCells,AVal.isN,AVal.cells,splice]
theorem bsP15 {lit:Bool} {H:Heap} {r0 r1 r2 r3 r4 r5 r6 r7 r8 r9 r10 r11 r12 r13 r14:ARef} (hl:lit=false) :
  bsA prog lit H 69 15 [(0,.ptr (some r0)),(1,.ptr (some r1)),(2,.ptr (some r2)),(3,.ptr (some r3)),(4,.ptr (some r4)),(5,.ptr (some r5)),(6,.ptr (some r6)),(7,.ptr (some r7)),(8,.ptr (some r8)),(9,.ptr (some r9)),(10,.ptr (some r10)),(11,.ptr (some r11)),(12,.ptr (some r12)),(13,.ptr (some r13)),(14,.ptr (some r14))] =
   some (.slice (some ⟨H.length,0,0⟩) 15 15,H++[⟨.cells [.ptr (some r0),.ptr (some r1),.ptr (some r2),.ptr (some r3),.ptr (some r4),.ptr (some r5),.ptr (some r6),.ptr (some r7),.ptr (some r8),.ptr (some r9),.ptr (some r10),.ptr (some r11),.ptr (some r12),.ptr (some r13),.ptr (some r14)] 68 true false,0⟩]):=by
 subst hl
 simp [bsA,rowOf,Fc.el69,fillA,repCells,AVal.isN,AVal.cells,splice]
theorem tmodI {a b:Int} {m n:Nat} (ha:a=(m:Int)) (hb:b=(n:Int)):a.tmod b=((m % n:Nat):Int):=by subst ha hb;rfl
theorem tdivI {a b:Int} {m n:Nat} (ha:a=(m:Int)) (hb:b=(n:Int)):a.tdiv b=((m / n:Nat):Int):=by subst ha hb;rfl
theorem bst_f {R:Rib} {c:Ct} (h:c ∈ bstE false R):0≤c.f∧c.f≤60:=by
 unfold bstE at h
 split at h
 ·cases h
 ·rename_i hc
  have hR:=chkR_iff.1 (Classical.not_not.1 hc)
  have hL:=hR.L
  obtain ⟨y,e,hy,hm⟩:=pthL_mem hR R.L.toNat 0 (by omega) (by omega) c h
  have:=(cutL_b hR hy hm).2.1
  simp only at this
  omega
theorem bst_len {R:Rib}:(bstE false R).length≤60:=by
 unfold bstE
 split
 ·simp
 ·rename_i hc
  have hR:=chkR_iff.1 (Classical.not_not.1 hc)
  have:=(pthL_ok (b:=false) hR R.L.toNat 0 0 0 (by omega) (by omega) (by omega)).2
  have:=folD_bd (b:=false) (x:=0) hR
  omega
theorem mad_b {R:Rib}:(madE R).length≤61∧∀ y ∈ madE R,0≤y∧y≤6000:=by
 unfold madE
 split
 ·simp
 ·rename_i hc
  have hR:=chkR_iff.1 (Classical.not_not.1 hc)
  have hL:=hR.L
  refine ⟨by rw [lst_len];omega,fun y hy=>?_⟩
  obtain ⟨i,hi⟩:=List.getElem?_of_mem hy
  have hl:=(List.getElem?_eq_some_iff.1 hi).1
  rw [lst_len] at hl
  have h2:(lst (fun y=>valD R y) (R.L.toNat+1)).getD i 0=valD R i:=lst_get hl
  rw [List.getD_eq_getElem?_getD,hi] at h2
  have h2:y=valD R i:=h2
  have:=valD_bd hR (x:=i)
  omega
theorem bsWW1 {lit:Bool} {H:Heap} {w:Wnt}:bsA prog lit H 33 1 [(0,.agg [.int .i64 w.lg,.int .i64 w.pr,.int .i64 w.off,.int .i64 w.fl,.int .i64 w.jn])]=some (.slice (some ⟨H.length,0,0⟩) 1 1,H++[rowE encW 50 [w] 0]):=by
 simp [bsA,rowOf,Fc.el33,fillA,repCells,AVal.isN,AVal.cells,splice,rowE,flat,encW]
theorem snocWW {b base:Nat} {A:Heap} {w:AVal} {l:List Wnt} {r:Wnt} (hO:Own encW 50 b A w l) (hb:base≤b) (hbh:b≤A.length) (hl:l.length≤1000000) :
  ∃ w' H,appendA prog base (A++[rowE encW 50 [r] 0]) 33 w (.slice (some ⟨A.length,0,0⟩) 1 1)=some (w',H)∧Own encW 50 b H w' (l++[r])∧A.length≤H.length∧(∀ G,G.length≤b→Ext G A→Ext G H)∧One w'∧KeepO encW 50 A H:=by
 obtain ⟨B,eB⟩:∃ B,B=A++[rowE encW 50 [r] 0]:=⟨_,rfl⟩
 have xB:Ext A B:=by rw [eB];exact .app .refl
 have lB':B.length=A.length+1:=by rw [eB];simp
 have hx:Rows encW B (.slice (some ⟨A.length,0,0⟩) 1 1) [r]:=Rows.own (by rw [eB];exact get_eq rfl) rfl (by simp)
 rw [← eB]
 obtain ⟨w',H,a1,a2,a3,a4,a5,a6⟩:=(hO.ext xB).appendRX (P:=prog) (base:=base) (t:=33) hx Fc.el33 encW_sc hb (by omega) (by simp) (by simp;omega)
 have a6:KeepO encW 50 B H:=a6
 exact ⟨w',H,a1,a2,by omega,fun G h1 h2=>a4 G h1 (h2.trans xB),a5,fun i y hi hy=>a6 i y (xB.get hi) hy⟩
def ribRow (a b:Int × AVal × AVal):ABlk:=⟨.cells [.int .i64 a.1,a.2.1,a.2.2,.int .i64 b.1,b.2.1,b.2.2] 35 true false,0⟩
theorem bsR2 {lit:Bool} {H:Heap} {L1 L2:Int} {f1 w1 f2 w2:AVal} (hl:lit=false) :
  bsA prog lit H 73 2 [(0,.agg [.int .i64 L1,f1,w1]),(1,.agg [.int .i64 L2,f2,w2])]=some (.slice (some ⟨H.length,0,0⟩) 2 2,H++[ribRow (L1,f1,w1) (L2,f2,w2)]):=by
 subst hl
 simp [bsA,rowOf,Fc.el73,fillA,repCells,AVal.isN,AVal.cells,splice,ribRow]
theorem adR2 {n k:Nat} (hk:k<2):indexAddrA prog 73 (.slice (some ⟨n,0,0⟩) 2 2) (.int .i64 (k:Int))=some (.ptr (some ⟨n,0,k * 3⟩)):=by
 rw [adr_sl Fc.el73 Fc.ar73 (by omega) (by omega),Int.toNat_natCast,Nat.zero_add]
theorem ldR2 {H:Heap} {id k:Nat} {a b:Int × AVal × AVal} (hg:H[id]?=some (ribRow a b)) (hk:k<2):∃ y,[a,b][k]?=some y∧loadP prog H 35 (.ptr (some ⟨id,0,k * 3⟩))=some (.agg [.int .i64 y.1,y.2.1,y.2.2]):=by
 have e:∀ o,o+3≤6→loadP prog H 35 (.ptr (some ⟨id,0,o⟩))=some (.agg (([AVal.int .i64 a.1,a.2.1,a.2.2,.int .i64 b.1,b.2.1,b.2.2].drop o).take 3)):=fun o ho=>by
  rw [load_eq,Fc.ty35,hg,ribRow,ldB_agg (by simp;omega)]
 rcases (by omega:k=0 ∨ k=1) with q|q<;>subst q
 ·exact ⟨_,rfl,e 0 (by decide)⟩
 ·exact ⟨_,rfl,e 3 (by decide)⟩
def tstRow (a b:Bool):ABlk:=⟨.cells [.bool a,.bool b] 4 true false,0⟩
theorem bsB2 {lit:Bool} {H:Heap} {a b:Bool} (hl:lit=false):bsA prog lit H 36 2 [(0,.bool a),(1,.bool b)]=some (.slice (some ⟨H.length,0,0⟩) 2 2,H++[tstRow a b]):=by
 subst hl
 simp [bsA,rowOf,Fc.el36,fillA,repCells,AVal.isN,AVal.cells,splice,tstRow]
theorem ldT2 {H:Heap} {a b:Bool} {k:Nat} (hk:k<2):loadP prog (H++[tstRow a b]) 4 (.ptr (some ⟨H.length,0,k⟩))=some (.bool ([a,b].getD k false)):=by
 rw [load_eq,Fc.ty4,get_eq rfl,tstRow,ldB_cell]
 rcases (by omega:k=0 ∨ k=1) with e|e<;>subst e<;>rfl
theorem adT2 {n k:Nat} (hk:k<2):indexAddrA prog 36 (.slice (some ⟨n,0,0⟩) 2 2) (.int .i64 (k:Int))=some (.ptr (some ⟨n,0,k⟩)):=by
 rw [adr_sl Fc.el36 Fc.ar36 (by omega) (by omega),Int.toNat_natCast,Nat.mul_one,Nat.zero_add]
theorem st_from {base id ver:Nat} {X:Heap} {c:Ct} {P:List Ct} {K:ABlk→Heap} (hb:base≤id) (g:X[id]?=some (rowE encC 57 (c :: P) ver)) :
  stQ base id (X[id]?) ver 1 [.int .i64 (c.f+1)] K=some (K (rowE encC 57 (⟨c.w,c.f+1,c.j⟩ :: P) ver)):=by
 have:=stQ_cellE (E:=encC) (e:=57) (l:=c :: P) (i:=0) (o:=1) (base:=base) (id:=id) (ver:=ver) (x:=c) (y:=⟨c.w,c.f+1,c.j⟩) (a:=.int .i64 (c.f+1)) (K:=K) rfl (by decide) rfl rfl hb
 rw [g];exact this
theorem ld_from {id ver z:Nat} {X:Heap} {c:Ct} {P:List Ct} (g:X[id]?=some (rowE encC 57 (c :: P) ver)):ldB (some (false,z)) (X[id]?) ver 1=some (.int .i64 c.f):=by
 have:=ldB_cellE (E:=encC) (e:=57) (l:=c :: P) (i:=0) (o:=1) (ver:=ver) (z:=z) (x:=c) (a:=.int .i64 c.f) rfl rfl
 rw [g];exact this
theorem st_val {base id ver k:Nat} {X:Heap} {V:List Int} {y:Int} {K:ABlk→Heap} (hb:base≤id) (hk:k<V.length) (g:X[id]?=some (rowE encI 3 V ver)) :
  stQ base id (X[id]?) ver k [.int .i64 y] K=some (K (rowE encI 3 (V.set k y) ver)):=by
 have h1:V[k]?=some (V.getD k 0):=getD_some hk
 have:=stQ_cellE (E:=encI) (e:=3) (l:=V) (i:=k) (o:=0) (base:=base) (id:=id) (ver:=ver) (x:=V.getD k 0) (y:=y) (a:=.int .i64 y) (K:=K) h1 (by decide) rfl rfl hb
 rw [show k * encI.z+0=k from Nat.mul_one k] at this
 rw [g];exact this
theorem ld_val {id ver k z:Nat} {X:Heap} {V:List Int} (hk:k<V.length) (g:X[id]?=some (rowE encI 3 V ver)):ldB (some (false,z)) (X[id]?) ver k=some (.int .i64 (V.getD k 0)):=by
 rw [g,rowE,flat_encI,ldB_ints hk]
def fltL (n:Nat):List Int:=(List.range n).map fun (i:Nat)=>4 * (i:Int)
def wtsL (n:Nat):List Wnt:=(List.range n).map fun (i:Nat)=>⟨1+((i % 4:Nat):Int),(i:Int),0,((i % 2:Nat):Int),0⟩
theorem fltL_succ {n:Nat}:fltL (n+1)=fltL n++[4 * (n:Int)]:=by unfold fltL;rw [List.range_succ,List.map_append];rfl
theorem wtsL_succ {n:Nat}:wtsL (n+1)=wtsL n++[⟨1+((n % 4:Nat):Int),(n:Int),0,((n % 2:Nat):Int),0⟩]:=by unfold wtsL;rw [List.range_succ,List.map_append];rfl
theorem fltL_len {n:Nat}:(fltL n).length=n:=by simp [fltL]
theorem wtsL_len {n:Nat}:(wtsL n).length=n:=by simp [wtsL]
theorem fltL_b {n:Nat} (hn:n≤14):∀ y ∈ fltL n,0≤y∧y≤60:=fun y hy=>by
 unfold fltL at hy
 obtain ⟨i,hi,rfl⟩:=List.mem_map.1 hy
 have:=List.mem_range.1 hi
 omega
set_option maxRecDepth 100000 in
theorem two_chk {n:Nat} (hn:n<14):decide (chkR ⟨60,fltL n,[]⟩=0)=decide ((n:Int)<13)∧decide (chkR ⟨9,[4],wtsL n⟩=0)=decide ((n:Int)<7):=by
 have:∀ n:Fin 14,decide (chkR ⟨60,fltL n,[]⟩=0)=decide (((n:Nat):Int)<13)∧decide (chkR ⟨9,[4],wtsL n⟩=0)=decide (((n:Nat):Int)<7):=by decide +kernel
 exact this ⟨n,hn⟩
end Go.AM
