/-
  FaultSmall: all that is asked about a loom, and the small loom.
-/
import Derived.Test.YtlhmeoeamcgcmaaGreatE57
import Derived.Test.YtlhmeoeamcgcmaaGreatE68
import Derived.Test.YtlhmeoeamcgcmaaGreatE73
import Derived.Test.YtlhmeoeamcgcmaaGreatE77
import Derived.Test.YtlhmeoeamcgcmaaGreatE79
import Derived.Test.YtlhmeoeamcgcmaaGreatK7
set_option linter.unusedSimpArgs false
set_option linter.unusedVariables false
namespace Go.AM
open Go.Proofs.Tryz
attribute [-go_sem] put_ne put_same
attribute [local go_sem ↓] put_if
set_option maxHeartbeats 1000000 in
theorem run_asked {base:Nat} {h:Heap} {v0 v1 v2 v3:AVal} {x y p:Int} (hL:LomN 1048576 h v0) (hB:BrkV h v1) (hT:RowsN encB 1048576 h v2) (hs:SgtV h v3) :
  callL prog raw base (.fn 56 [] []) [v0,v1,v2,v3,.int .i64 x,.int .i64 y,.int .i64 p] h=some (.bool true,h):=by
 obtain ⟨L,hL0,hLn⟩:=id hL
 obtain ⟨pv,sv,e0,hP,hS⟩:=hL0
 obtain ⟨b1,b2,b3,e1⟩:=id hB
 obtain ⟨s,e3⟩:=id hs
 obtain ⟨t,hT0,_⟩:=id hT
 have o1:=hP.one
 have o2:=hS.one
 have o3:=hT0.one
 simp only [encS] at e3
 subst e0 e1 e3
 obtain ⟨G,eG⟩:∃ G,G=h++[lmB L.R L.T pv sv]++[(⟨.cells [.int .i64 b1,.int .i64 b2,.int .i64 b3] 75 false false,0⟩:ABlk)]++[(⟨.cells [.int .i64 s.rib,.int .i64 s.lo,.int .i64 s.hi,.bool s.bad] 56 false false,0⟩:ABlk)]:=⟨_,rfl⟩
 have xG:Ext h G:=by rw [eG];exact .app (.app (.app .refl))
 have g1:G[h.length]?=some (lmB L.R L.T pv sv):=by rw [eG];exact get_app (get_app (get_eq rfl))
 have g2:G[h.length+1]?=some ⟨.cells [.int .i64 b1,.int .i64 b2,.int .i64 b3] 75 false false,0⟩:=by rw [eG];exact get_app (get_eq (by simp))
 have g3:G[h.length+1+1]?=some ⟨.cells [.int .i64 s.rib,.int .i64 s.lo,.int .i64 s.hi,.bool s.bad] 56 false false,0⟩:=by rw [eG];exact get_eq (by simp)
 have LG:LomN 1048576 G (lomV L.R L.T pv sv):=hL.ext xG
 have TG:RowsN encB 1048576 G v2:=hT.ext xG
 have IV:∀ n:Int,IntV G (.int .i64 n):=fun n=>⟨n,rfl⟩
 have c1:=fun base=>run_FaultLooms (base:=base) LG (v1:=.agg [.int .i64 b1,.int .i64 b2,.int .i64 b3]) hB
 have c2:=fun base=>run_FaultTruths (base:=base) LG TG (v2:=.agg [.int .i64 s.rib,.int .i64 s.lo,.int .i64 s.hi,.bool s.bad]) hs
 have c3:=fun base=>run_FaultFewest (base:=base) LG (IV x) (IV y)
 have c4:=fun base=>run_FaultLasts (base:=base) LG (IV x)
 have c5:=fun base=>run_FaultWeavers (base:=base) LG (IV y) (IV p)
 unfold lmB at eG g1
 refine callL_run func56 rfl rfl ?_
 have hsp:=@Nat.succ_ne_zero;repeat' (first|simp (disch:=first|exact dq|fail) only [go_sem,↓reduceIte,hsp,← eG,g1,g2,g3,c1,c2,c3,c4,c5]|refine WP_drw ?_|refine cnd_intro (fun hsp=>?_) fun hsp=>?_)
 exact fB rfl xG
abbrev sg2:List Sgt:=[⟨0,1,2,true⟩,⟨1,0,1,false⟩]
abbrev ps2 (a b:AVal):List PrtV:=[⟨a,1,0,true⟩,⟨b,2,1,false⟩]
structure SmA (b:Nat) (H:Heap) (v:AVal) (ss:List Sgt) (A B P S w:Nat):Prop where
 hv:v=lomV 2 4 (.slice (some ⟨P,0,0⟩) 2 2) (.slice (some ⟨S,w,0⟩) ss.length ss.length)
 gA:H[A]?=some (rowB [0] 0)
 gB:H[B]?=some (rowB [0,1] 0)
 gP:H[P]?=some (rowE encP 81 (ps2 (.slice (some ⟨A,0,0⟩) 1 1) (.slice (some ⟨B,0,0⟩) 2 2)) 0)
 gS:H[S]?=some (rowE encS 56 ss w)
 lo:b≤A∧A<B∧B<P∧P<S
theorem bsP2 {lit:Bool} {H:Heap} {p q:PrtV}:bsA prog lit H 22 2 [(0,.agg (encP.cells p)),(1,.agg (encP.cells q))]=some (.slice (some ⟨H.length,0,0⟩) 2 2,H++[rowE encP 81 [p,q] 0]):=by
 simp [bsA,rowOf,Fc.el22,fillA,repCells,AVal.isN,AVal.cells,splice,rowE,flat,encP]
theorem bs1I {lit:Bool} {H:Heap} {a:Int} (hl:lit=false):bsA prog lit H 36 1 [(0,.int .i64 a)]=some (.slice (some ⟨H.length,0,0⟩) 1 1,H++[rowB [a] 0]):=by
 subst hl;simp [bsA,rowOf,Fc.el36,fillA,repCells,AVal.isN,AVal.cells,splice,rowB,ints]
set_option maxHeartbeats 1000000 in
theorem run_small {base:Nat} {h:Heap} {mv:AVal} {more:List Sgt} (hb:base≤h.length) (hM:Rows encS h mv more) (hl:more.length≤1000) :
  Ret prog raw base (.fn 55 [] []) [mv] h (fun v H=>Ext h H∧∃ A B P S w,SmA h.length H v (sg2++more) A B P S w):=by
 have ho:=hM.one
 refine ret_raw func55 rfl (by kernel_rfl) ?_
 by_cases c:more=[]
 ·subst c
  have ha:∀ {A:Heap} {n:Nat},n=A.length→base≤A.length→Rows encS A mv []→appendA prog base (A++[rowE encS 56 sg2 0]) 23 (.slice (some ⟨n,0,0⟩) 2 2) mv=some (.slice (some ⟨n,0,0⟩) 2 2,A++[rowE encS 56 sg2 0]):=fun {A n} hn hb hR=>by
   subst hn
   exact app_nil (l:=sg2) (b:=A.length) (.inr ⟨A.length,0,rfl,by simp,Nat.le_refl _,by simp⟩) hR.app Fc.el23 hb
  have hsp:=@Nat.succ_ne_zero;repeat' (first|simp (disch:=first|exact dq|fail) only [go_sem,↓reduceIte,hsp,run_sgt,run_thread,run_laced,bs1I,bs2,bsP2,bsS2,ha]|refine WP_drw ?_|refine cnd_intro (fun hsp=>?_) fun hsp=>?_)
  refine ⟨by repeat' first|exact Ext.refl|refine Ext.app ?_,h.length+1,h.length+1+1+1,h.length+1+1+1+1+1,h.length+1+1+1+1+1+1,0,⟨rfl,?_,?_,?_,?_,by omega⟩⟩
  all_goals (repeat' first|exact get_eq (by simp)|refine get_app ?_)
 ·have hc:0<more.length:=List.length_pos_iff.2 c
  have ha:∀ {A:Heap} {n:Nat},n=A.length→base≤A.length→Rows encS A mv more→appendA prog base (A++[rowE encS 56 sg2 0]) 23 (.slice (some ⟨n,0,0⟩) 2 2) mv=some (.slice (some ⟨A.length,1,0⟩) (2+more.length) (2+more.length),A++[rowE encS 56 (sg2++more) 1]):=fun {A n} hn hb hR =>
   app_lastE (l:=sg2) hn rfl hR c (by simp) encS_sc Fc.el23 hb (by simp;omega)
  have hsp:=@Nat.succ_ne_zero;repeat' (first|simp (disch:=first|exact dq|fail) only [go_sem,↓reduceIte,hsp,run_sgt,run_thread,run_laced,bs1I,bs2,bsP2,bsS2,ha]|refine WP_drw ?_|refine cnd_intro (fun hsp=>?_) fun hsp=>?_)
  refine ⟨by repeat' first|exact Ext.refl|refine Ext.app ?_,h.length+1,h.length+1+1+1,h.length+1+1+1+1+1,h.length+1+1+1+1+1+1,1,⟨by rw [show 2+more.length=more.length+1+1 by omega];rfl,?_,?_,?_,?_,by omega⟩⟩
  all_goals (repeat' first|exact get_eq (by simp)|refine get_app ?_)
end Go.AM
namespace Go.AM
open Go.Proofs.Tryz
def upd (f:Nat→Int) (i:Nat) (n:Int):Nat→Int:=fun k=>if k=i then n else f k
def dfl:Nat→Int:=fun k=>[2,4,0,2,1,0,1,2,1,1,2,0,3,1,2,7].getD k 0
def brk3 (a b c:Int):ABlk:=⟨.cells [.int .i64 a,.int .i64 b,.int .i64 c] 75 false false,0⟩
def sgt4 (a b c:Int) (d:Bool):ABlk:=⟨.cells [.int .i64 a,.int .i64 b,.int .i64 c,.bool d] 56 false false,0⟩
def intB1 (a:Int):ABlk:=⟨.cells [.int .i64 a] 3 false false,0⟩
structure StA (H:Heap) (f:Nat→Int) (A B P S w N:Nat):Prop where
 gL:H[N]?=some (lmB (f 0) (f 1) (.slice (some ⟨P,0,0⟩) 2 2) (.slice (some ⟨S,w,0⟩) 3 3))
 gA:H[A]?=some (rowB [0] 0)
 gB:H[B]?=some (rowB [f 2,1] 0)
 gP:H[P]?=some (rowE encP 81 [⟨.slice (some ⟨A,0,0⟩) 1 1,1,0,true⟩,⟨.slice (some ⟨B,0,0⟩) 2 2,f 3,f 4,false⟩] 0)
 gS:H[S]?=some (rowE encS 56 [⟨f 5,f 6,f 7,true⟩,⟨1,0,1,false⟩,⟨1,3,3,true⟩] w)
 gR:H[N+1]?=some (rowE encB 75 [(f 11,1,2),(1,2,f 12)] 0)
 gK:H[N+2]?=some (brk3 (f 8) (f 9) (f 10))
 gG:H[N+3]?=some (sgt4 (f 13) 2 2 false)
 gY:H[N+4]?=some (intB1 (f 14))
 gZ:H[N+5]?=some (intB1 (f 15))
 lo:A<B∧B<P∧P<S∧S<N
def tgt (B P S w N:Nat):Nat→ARef
 | 0=>⟨N,0,0⟩|1=>⟨N,0,1⟩|2=>⟨B,0,0⟩|3=>⟨P,0,5⟩|4=>⟨P,0,6⟩|5=>⟨S,w,0⟩|6=>⟨S,w,1⟩|7=>⟨S,w,2⟩
 | 8=>⟨N+2,0,0⟩|9=>⟨N+2,0,1⟩|10=>⟨N+2,0,2⟩|11=>⟨N+1,0,0⟩|12=>⟨N+1,0,5⟩|13=>⟨N+3,0,0⟩|14=>⟨N+4,0,0⟩|_=>⟨N+5,0,0⟩
theorem st_cell {H:Heap} {id ver o base:Nat} {c:List AVal} {e:TypeId} {row:Bool} {n:Int} (hg:H[id]?=some ⟨.cells c e row false,ver⟩) (ho:o<c.length) (hb:base≤id) :
  stP prog base H 3 (.ptr (some ⟨id,ver,o⟩)) (.int .i64 n)=some (undefA,H.set id ⟨.cells (c.set o (.int .i64 n)) e row false,ver⟩):=by
 rw [Fc.st3 ⟨rfl,rfl,rfl⟩,hg,stQ_own hb (by simp;omega) (by simp [AVal.scalar])]
 rfl
set_option maxHeartbeats 2000000 in
theorem StA.store {H:Heap} {f:Nat→Int} {A B P S w N base i:Nat} {n:Int} (s:StA H f A B P S w N) (hb:base≤A) (hi:i<16) :
  ∃ H',stP prog base H 3 (.ptr (some (tgt B P S w N i))) (.int .i64 n)=some (undefA,H')∧StA H' (upd f i n) A B P S w N∧H'.length=H.length∧∀ G,G.length≤A→Ext G H→Ext G H':=by
 obtain ⟨gL,gA,gB,gP,gS,gR,gK,gG,gY,gZ,lo⟩:=s
 have l1:=lt_of_get gL
 have l2:=lt_of_get gB
 have l3:=lt_of_get gP
 have l4:=lt_of_get gS
 have l5:=lt_of_get gR
 have l6:=lt_of_get gK
 have l7:=lt_of_get gG
 have l8:=lt_of_get gY
 have l9:=lt_of_get gZ
 rcases (by omega:i=0 ∨ i=1 ∨ i=2 ∨ i=3 ∨ i=4 ∨ i=5 ∨ i=6 ∨ i=7 ∨ i=8 ∨ i=9 ∨ i=10 ∨ i=11 ∨ i=12 ∨ i=13 ∨ i=14 ∨ i=15) with e|e|e|e|e|e|e|e|e|e|e|e|e|e|e|e<;>subst e
 iterate 2 exact ⟨_,st_cell gL (by simp [ints]) (by omega),⟨by rw [List.getElem?_set_self l1];rfl,by rw [List.getElem?_set_ne (by omega)];exact gA,by rw [List.getElem?_set_ne (by omega)];exact gB,by rw [List.getElem?_set_ne (by omega)];exact gP,by rw [List.getElem?_set_ne (by omega)];exact gS,by rw [List.getElem?_set_ne (by omega)];exact gR,by rw [List.getElem?_set_ne (by omega)];exact gK,by rw [List.getElem?_set_ne (by omega)];exact gG,by rw [List.getElem?_set_ne (by omega)];exact gY,by rw [List.getElem?_set_ne (by omega)];exact gZ,lo⟩,by simp,fun G hG x=>x.set (by omega)⟩
 iterate 1 exact ⟨_,st_cell gB (by simp [ints]) (by omega),⟨by rw [List.getElem?_set_ne (by omega)];exact gL,by rw [List.getElem?_set_ne (by omega)];exact gA,by rw [List.getElem?_set_self l2];rfl,by rw [List.getElem?_set_ne (by omega)];exact gP,by rw [List.getElem?_set_ne (by omega)];exact gS,by rw [List.getElem?_set_ne (by omega)];exact gR,by rw [List.getElem?_set_ne (by omega)];exact gK,by rw [List.getElem?_set_ne (by omega)];exact gG,by rw [List.getElem?_set_ne (by omega)];exact gY,by rw [List.getElem?_set_ne (by omega)];exact gZ,lo⟩,by simp,fun G hG x=>x.set (by omega)⟩
 iterate 2 exact ⟨_,st_cell gP (by simp [flat,encP]) (by omega),⟨by rw [List.getElem?_set_ne (by omega)];exact gL,by rw [List.getElem?_set_ne (by omega)];exact gA,by rw [List.getElem?_set_ne (by omega)];exact gB,by rw [List.getElem?_set_self l3];rfl,by rw [List.getElem?_set_ne (by omega)];exact gS,by rw [List.getElem?_set_ne (by omega)];exact gR,by rw [List.getElem?_set_ne (by omega)];exact gK,by rw [List.getElem?_set_ne (by omega)];exact gG,by rw [List.getElem?_set_ne (by omega)];exact gY,by rw [List.getElem?_set_ne (by omega)];exact gZ,lo⟩,by simp,fun G hG x=>x.set (by omega)⟩
 iterate 3 exact ⟨_,st_cell gS (by simp [flat,encS]) (by omega),⟨by rw [List.getElem?_set_ne (by omega)];exact gL,by rw [List.getElem?_set_ne (by omega)];exact gA,by rw [List.getElem?_set_ne (by omega)];exact gB,by rw [List.getElem?_set_ne (by omega)];exact gP,by rw [List.getElem?_set_self l4];rfl,by rw [List.getElem?_set_ne (by omega)];exact gR,by rw [List.getElem?_set_ne (by omega)];exact gK,by rw [List.getElem?_set_ne (by omega)];exact gG,by rw [List.getElem?_set_ne (by omega)];exact gY,by rw [List.getElem?_set_ne (by omega)];exact gZ,lo⟩,by simp,fun G hG x=>x.set (by omega)⟩
 iterate 3 exact ⟨_,st_cell gK (by simp [ints]) (by omega),⟨by rw [List.getElem?_set_ne (by omega)];exact gL,by rw [List.getElem?_set_ne (by omega)];exact gA,by rw [List.getElem?_set_ne (by omega)];exact gB,by rw [List.getElem?_set_ne (by omega)];exact gP,by rw [List.getElem?_set_ne (by omega)];exact gS,by rw [List.getElem?_set_ne (by omega)];exact gR,by rw [List.getElem?_set_self l6];rfl,by rw [List.getElem?_set_ne (by omega)];exact gG,by rw [List.getElem?_set_ne (by omega)];exact gY,by rw [List.getElem?_set_ne (by omega)];exact gZ,lo⟩,by simp,fun G hG x=>x.set (by omega)⟩
 iterate 2 exact ⟨_,st_cell gR (by simp [flat,encB]) (by omega),⟨by rw [List.getElem?_set_ne (by omega)];exact gL,by rw [List.getElem?_set_ne (by omega)];exact gA,by rw [List.getElem?_set_ne (by omega)];exact gB,by rw [List.getElem?_set_ne (by omega)];exact gP,by rw [List.getElem?_set_ne (by omega)];exact gS,by rw [List.getElem?_set_self l5];rfl,by rw [List.getElem?_set_ne (by omega)];exact gK,by rw [List.getElem?_set_ne (by omega)];exact gG,by rw [List.getElem?_set_ne (by omega)];exact gY,by rw [List.getElem?_set_ne (by omega)];exact gZ,lo⟩,by simp,fun G hG x=>x.set (by omega)⟩
 iterate 1 exact ⟨_,st_cell gG (by simp [ints]) (by omega),⟨by rw [List.getElem?_set_ne (by omega)];exact gL,by rw [List.getElem?_set_ne (by omega)];exact gA,by rw [List.getElem?_set_ne (by omega)];exact gB,by rw [List.getElem?_set_ne (by omega)];exact gP,by rw [List.getElem?_set_ne (by omega)];exact gS,by rw [List.getElem?_set_ne (by omega)];exact gR,by rw [List.getElem?_set_ne (by omega)];exact gK,by rw [List.getElem?_set_self l7];rfl,by rw [List.getElem?_set_ne (by omega)];exact gY,by rw [List.getElem?_set_ne (by omega)];exact gZ,lo⟩,by simp,fun G hG x=>x.set (by omega)⟩
 iterate 1 exact ⟨_,st_cell gY (by simp [ints]) (by omega),⟨by rw [List.getElem?_set_ne (by omega)];exact gL,by rw [List.getElem?_set_ne (by omega)];exact gA,by rw [List.getElem?_set_ne (by omega)];exact gB,by rw [List.getElem?_set_ne (by omega)];exact gP,by rw [List.getElem?_set_ne (by omega)];exact gS,by rw [List.getElem?_set_ne (by omega)];exact gR,by rw [List.getElem?_set_ne (by omega)];exact gK,by rw [List.getElem?_set_ne (by omega)];exact gG,by rw [List.getElem?_set_self l8];rfl,by rw [List.getElem?_set_ne (by omega)];exact gZ,lo⟩,by simp,fun G hG x=>x.set (by omega)⟩
 exact ⟨_,st_cell gZ (by simp [ints]) (by omega),⟨by rw [List.getElem?_set_ne (by omega)];exact gL,by rw [List.getElem?_set_ne (by omega)];exact gA,by rw [List.getElem?_set_ne (by omega)];exact gB,by rw [List.getElem?_set_ne (by omega)];exact gP,by rw [List.getElem?_set_ne (by omega)];exact gS,by rw [List.getElem?_set_ne (by omega)];exact gR,by rw [List.getElem?_set_ne (by omega)];exact gK,by rw [List.getElem?_set_ne (by omega)];exact gG,by rw [List.getElem?_set_ne (by omega)];exact gY,by rw [List.getElem?_set_self l9];rfl,lo⟩,by simp,fun G hG x=>x.set (by omega)⟩
def rng63 (n:Int):Prop:=-9223372036854775808≤n∧n<9223372036854775808
theorem ints_rowB {H:Heap} {A:Nat} {l:List Int} (hg:H[A]?=some (rowB l 0)) (hs:Small l):Ints H (.slice (some ⟨A,0,0⟩) l.length l.length) l :=
 (Rows.own (E:=encI) (e:=3) (by rw [rowE,flat_encI];exact hg) rfl (by have:=hs.1;omega)).ints hs.2
theorem StA.lom {H:Heap} {f:Nat→Int} {A B P S w N:Nat} (s:StA H f A B P S w N) (hr:∀ k,rng63 (f k)):LomN 1048576 H (lomV (f 0) (f 1) (.slice (some ⟨P,0,0⟩) 2 2) (.slice (some ⟨S,w,0⟩) 3 3)):=by
 refine ⟨⟨f 0,f 1,[⟨[0],1,0,true⟩,⟨[f 2,1],f 3,f 4,false⟩],[⟨f 5,f 6,f 7,true⟩,⟨1,0,1,false⟩,⟨1,3,3,true⟩]⟩,⟨_,_,rfl,⟨_,Rows.own s.gP rfl (by simp),rfl,fun i x p h1 h2=>?_⟩,Rows.own s.gS rfl (by simp)⟩,by simp,by simp,by simp⟩
 rcases i with _|_|i
 ·cases h1;cases h2;exact ⟨ints_rowB s.gA sm1,rfl,rfl,rfl⟩
 ·cases h1;cases h2
  refine ⟨ints_rowB s.gB ⟨by simp,fun x hx=>?_⟩,rfl,rfl,rfl⟩
  simp only [List.mem_cons,List.not_mem_nil,or_false] at hx
  rcases hx with rfl|rfl
  ·exact hr 2
  ·omega
 ·simp at h1
theorem StA.truth {H:Heap} {f:Nat→Int} {A B P S w N:Nat} (s:StA H f A B P S w N):RowsN encB 1048576 H (.slice (some ⟨N+1,0,0⟩) 2 2):=⟨_,Rows.own s.gR rfl (by simp),by simp⟩
theorem dfl_rng (k:Nat):rng63 (dfl k):=by
 by_cases h:k<16
 ·have:∀ k:Fin 16,-9223372036854775808≤dfl k∧dfl k<9223372036854775808:=by decide
  exact this ⟨k,h⟩
 ·unfold rng63 dfl
  rw [List.getD_eq_getElem?_getD,List.getElem?_eq_none (by simp;omega)]
  exact ⟨by decide,by decide⟩
theorem upd_rng {f:Nat→Int} {i:Nat} {n:Int} (hf:∀ k,rng63 (f k)) (hn:rng63 n):∀ k,rng63 (upd f i n k):=fun k=>by
 unfold upd
 split
 ·exact hn
 ·exact hf k
section
variable {lit:Bool} {H:Heap}
theorem bs4I {a b c d:Int} (hl:lit=false):bsA prog lit H 36 4 [(0,.int .i64 a),(1,.int .i64 b),(2,.int .i64 c),(3,.int .i64 d)]=some (.slice (some ⟨H.length,0,0⟩) 4 4,H++[rowB [a,b,c,d] 0]):=by
 subst hl;simp [bsA,rowOf,Fc.el36,fillA,repCells,AVal.isN,AVal.cells,splice,rowB,ints]
theorem bs5I {a b c d e:Int} (hl:lit=false):bsA prog lit H 36 5 [(0,.int .i64 a),(1,.int .i64 b),(2,.int .i64 c),(3,.int .i64 d),(4,.int .i64 e)]=some (.slice (some ⟨H.length,0,0⟩) 5 5,H++[rowB [a,b,c,d,e] 0]):=by
 subst hl;simp [bsA,rowOf,Fc.el36,fillA,repCells,AVal.isN,AVal.cells,splice,rowB,ints]
theorem bs6I {a b c d e f:Int} (hl:lit=false):bsA prog lit H 36 6 [(0,.int .i64 a),(1,.int .i64 b),(2,.int .i64 c),(3,.int .i64 d),(4,.int .i64 e),(5,.int .i64 f)]=some (.slice (some ⟨H.length,0,0⟩) 6 6,H++[rowB [a,b,c,d,e,f] 0]):=by
 subst hl;simp [bsA,rowOf,Fc.el36,fillA,repCells,AVal.isN,AVal.cells,splice,rowB,ints]
end
def prts (l:List AVal):List (Nat × AVal):=l.zipIdx.map fun p=>(p.2,p.1)
theorem bsB2 {lit:Bool} {H:Heap} {p q:Brk}:bsA prog lit H 60 2 [(0,.agg [.int .i64 p.1,.int .i64 p.2.1,.int .i64 p.2.2]),(1,.agg [.int .i64 q.1,.int .i64 q.2.1,.int .i64 q.2.2])]=some (.slice (some ⟨H.length,0,0⟩) 2 2,H++[rowE encB 75 [p,q] 0]):=by
 simp [bsA,rowOf,Fc.el60,fillA,repCells,AVal.isN,AVal.cells,splice,rowE,flat,encB]
theorem bsS16 {lit:Bool} {H:Heap} {r0 r1 r2 r3 r4 r5 r6 r7 r8 r9 r10 r11 r12 r13 r14 r15:ARef} {n0 n1 n2 n3 n4 n5 n6 n7 n8 n9 n10 n11 n12 n13 n14 n15 k0 k1 k2 k3 k4 k5 k6 k7 k8 k9 k10 k11 k12 k13 k14 k15:Nat} (hl:lit=false) :
  bsA prog lit H 104 16 [(0,.slice (some r0) n0 k0),(1,.slice (some r1) n1 k1),(2,.slice (some r2) n2 k2),(3,.slice (some r3) n3 k3),(4,.slice (some r4) n4 k4),(5,.slice (some r5) n5 k5),(6,.slice (some r6) n6 k6),(7,.slice (some r7) n7 k7),(8,.slice (some r8) n8 k8),(9,.slice (some r9) n9 k9),(10,.slice (some r10) n10 k10),(11,.slice (some r11) n11 k11),(12,.slice (some r12) n12 k12),(13,.slice (some r13) n13 k13),(14,.slice (some r14) n14 k14),(15,.slice (some r15) n15 k15)] =
   some (.slice (some ⟨H.length,0,0⟩) 16 16,H++[⟨.cells [.slice (some r0) n0 k0,.slice (some r1) n1 k1,.slice (some r2) n2 k2,.slice (some r3) n3 k3,.slice (some r4) n4 k4,.slice (some r5) n5 k5,.slice (some r6) n6 k6,.slice (some r7) n7 k7,.slice (some r8) n8 k8,.slice (some r9) n9 k9,.slice (some r10) n10 k10,.slice (some r11) n11 k11,.slice (some r12) n12 k12,.slice (some r13) n13 k13,.slice (some r14) n14 k14,.slice (some r15) n15 k15] 36 true false,0⟩]):=by
 subst hl
 simp [bsA,rowOf,Fc.el104,fillA,repCells,AVal.isN,AVal.cells,splice]
theorem bsP16 {lit:Bool} {H:Heap} {r0 r1 r2 r3 r4 r5 r6 r7 r8 r9 r10 r11 r12 r13 r14 r15:ARef} (hl:lit=false) :
  bsA prog lit H 107 16 [(0,.ptr (some r0)),(1,.ptr (some r1)),(2,.ptr (some r2)),(3,.ptr (some r3)),(4,.ptr (some r4)),(5,.ptr (some r5)),(6,.ptr (some r6)),(7,.ptr (some r7)),(8,.ptr (some r8)),(9,.ptr (some r9)),(10,.ptr (some r10)),(11,.ptr (some r11)),(12,.ptr (some r12)),(13,.ptr (some r13)),(14,.ptr (some r14)),(15,.ptr (some r15))] =
   some (.slice (some ⟨H.length,0,0⟩) 16 16,H++[⟨.cells [.ptr (some r0),.ptr (some r1),.ptr (some r2),.ptr (some r3),.ptr (some r4),.ptr (some r5),.ptr (some r6),.ptr (some r7),.ptr (some r8),.ptr (some r9),.ptr (some r10),.ptr (some r11),.ptr (some r12),.ptr (some r13),.ptr (some r14),.ptr (some r15)] 106 true false,0⟩]):=by
 subst hl
 simp [bsA,rowOf,Fc.el107,fillA,repCells,AVal.isN,AVal.cells,splice]
end Go.AM
namespace Go.AM
open Go.Proofs.Tryz
attribute [-go_sem] put_ne put_same
attribute [local go_sem ↓] put_if
def limL:List (List Int):=[[0,1,2,6,7],[0,1,2,3,12,13],[-1,0,1,2],[0,1,2,4,5],[-1,0,1,2],[-1,0,1,2],[-1,0,1,2,3,4],[0,1,2,3,4],[-1,0,1,2],[-1,0,1,3,4],[-1,0,1,3,4],[-1,0,1,2],[-1,0,3,4],[-1,0,1,2],[-1,0,1,2,3],[-1,0,1000,1001]]
def limC (n:Nat):List AVal:=[.slice (some ⟨n,0,0⟩) 5 5,.slice (some ⟨n+1,0,0⟩) 6 6,.slice (some ⟨n+2,0,0⟩) 4 4,.slice (some ⟨n+3,0,0⟩) 5 5,.slice (some ⟨n+4,0,0⟩) 4 4,.slice (some ⟨n+5,0,0⟩) 4 4,.slice (some ⟨n+6,0,0⟩) 6 6,.slice (some ⟨n+7,0,0⟩) 5 5,.slice (some ⟨n+8,0,0⟩) 4 4,.slice (some ⟨n+9,0,0⟩) 5 5,.slice (some ⟨n+10,0,0⟩) 5 5,.slice (some ⟨n+11,0,0⟩) 4 4,.slice (some ⟨n+12,0,0⟩) 4 4,.slice (some ⟨n+13,0,0⟩) 4 4,.slice (some ⟨n+14,0,0⟩) 5 5,.slice (some ⟨n+15,0,0⟩) 4 4]
theorem lim_at {n i:Nat} (hi:i<16):(limC n)[i]?=some (.slice (some ⟨n+i,0,0⟩) (limL.getD i []).length (limL.getD i []).length):=by
 rcases (by omega:i=0 ∨ i=1 ∨ i=2 ∨ i=3 ∨ i=4 ∨ i=5 ∨ i=6 ∨ i=7 ∨ i=8 ∨ i=9 ∨ i=10 ∨ i=11 ∨ i=12 ∨ i=13 ∨ i=14 ∨ i=15) with e|e|e|e|e|e|e|e|e|e|e|e|e|e|e|e<;>subst e<;>rfl
theorem lim_len {i:Nat} (hi:i<16):0<(limL.getD i []).length∧(limL.getD i []).length≤6:=by
 have:∀ i:Fin 16,0<(limL.getD i []).length∧(limL.getD i []).length≤6:=by decide
 exact this ⟨i,hi⟩
theorem lim_small {i:Nat} (hi:i<16):Small (limL.getD i []):=by
 refine ⟨by have:=(lim_len hi).2;omega,?_⟩
 have:∀ i:Fin 16,∀ x ∈ limL.getD i [],-9223372036854775808≤x∧x<9223372036854775808:=by decide
 exact this ⟨i,hi⟩
theorem lim_row {H h:Heap} (e:H=h++limL.map fun l=>rowB l 0) {i:Nat} (hi:i<16):H[h.length+i]?=some (rowB (limL.getD i []) 0):=by
 rw [e,List.getElem?_append_right (by omega),show h.length+i-h.length=i by omega,List.getElem?_map,List.getD_eq_getElem?_getD]
 have:limL[i]?=some ((limL[i]?).getD []):=by rw [List.getElem?_eq_getElem (show i<limL.length from hi)];rfl
 rw [this];rfl
theorem bsSx {lit:Bool} {H:Heap} {a b c:Int} {d:Bool}:bsA prog lit H 23 1 [(0,.agg [.int .i64 a,.int .i64 b,.int .i64 c,.bool d])]=some (.slice (some ⟨H.length,0,0⟩) 1 1,H++[rowE encS 56 [⟨a,b,c,d⟩] 0]):=bsS1 (s:=⟨a,b,c,d⟩)
theorem bsPx {lit:Bool} {H:Heap} {r:AVal} {a b:Int} {d:Bool} (hr:One r):bsA prog lit H 22 1 [(0,.agg [r,.int .i64 a,.int .i64 b,.bool d])]=some (.slice (some ⟨H.length,0,0⟩) 1 1,H++[rowE encP 81 [⟨r,a,b,d⟩] 0]):=by
 have hn2:=norm_one hr
 simp [bsA,rowOf,Fc.el22,fillA,repCells,AVal.isN,AVal.cells,splice,rowE,flat,encP,hn2]
theorem tmodI {a b:Int} {m n:Nat} (ha:a=(m:Int)) (hb:b=(n:Int)):a.tmod b=((m % n:Nat):Int):=by subst ha hb;rfl
theorem tdivI {a b:Int} {m n:Nat} (ha:a=(m:Int)) (hb:b=(n:Int)):a.tdiv b=((m / n:Nat):Int):=by subst ha hb;rfl
theorem own1 {b id:Nat} {H:Heap} {n:Int} (hg:H[id]?=some (rowB [n] 0)) (hb:b≤id):OwnE encI 3 b H (.slice (some ⟨id,0,0⟩) 1 1) [n]:=.inl (.inr ⟨id,0,rfl,by rw [rowE,flat_encI];exact hg,hb,by simp⟩)
def psA:List Prt:=[⟨[0],1,0,true⟩,⟨[0,1],2,1,false⟩]
def prtD (d:Nat):Prt:=⟨[((d % 2:Nat):Int)],1,0,decide (((d % 2:Nat):Int)=0)⟩
def sgtD (d:Nat):Sgt:=⟨((d % 2:Nat):Int),((d % 4:Nat):Int),((d % 4:Nat):Int),decide (((d % 3:Nat):Int)=0)⟩
def lomK (a:Nat):Nat→Lom
 | 0=>⟨(a:Int),4,psA,sg2⟩
 | 1=>⟨2,(a:Int),psA,sg2⟩
 | 2=>⟨2,4,(List.range (min a 9)).map prtD,sg2⟩
 | _=>⟨2,4,psA,(List.range a).map sgtD⟩
def tstL (a:Nat):List Bool:=[decide (1<a∧a<7),decide (2<a∧a<13),decide (0<a∧a<7),decide (a<11)]
set_option maxRecDepth 100000 in
theorem lomK_chk {a k:Nat} (ha:a<14) (hk:k<4):decide (chkM (lomK a k)=0)=(tstL a).getD k false:=by
 have:∀ a:Fin 14,∀ k:Fin 4,decide (chkM (lomK a k)=0)=(tstL a).getD k false:=by decide +kernel
 exact this ⟨a,ha⟩ ⟨k,hk⟩
theorem run_small0 {base:Nat} {h:Heap} (hb:base≤h.length) :
  Ret prog raw base (.fn 55 [] []) [.slice none 0 0] h (fun v H=>Ext h H∧∃ pv sv,v=lomV 2 4 pv sv∧Parts H pv psA∧Rows encS H sv sg2):=by
 obtain ⟨v,H,e,x,A,B,P,S,w,s⟩:=run_small (base:=base) hb (Rows.nil (h:=h) (E:=encS)) (by simp)
 refine ⟨v,H,e,x,_,_,s.hv,⟨_,Rows.own s.gP rfl (by simp),rfl,fun i x p h1 h2=>?_⟩,Rows.own s.gS rfl (by simp)⟩
 rcases i with _|_|i
 ·cases h1;cases h2;exact ⟨ints_rowB s.gA ⟨by simp,by simp⟩,rfl,rfl,rfl⟩
 ·cases h1;cases h2;exact ⟨ints_rowB s.gB ⟨by simp,by simp⟩,rfl,rfl,rfl⟩
 ·simp at h1
theorem bsP1' {lit:Bool} {H:Heap} {p:PrtV}:bsA prog lit H 22 1 [(0,.agg (encP.cells p))]=some (.slice (some ⟨H.length,0,0⟩) 1 1,H++[rowE encP 81 [p] 0]):=by
 simp [bsA,rowOf,Fc.el22,fillA,repCells,AVal.isN,AVal.cells,splice,rowE,flat,encP]
def loomRow (a b c d:Int × Int × AVal × AVal):ABlk:=⟨.cells [.int .i64 a.1,.int .i64 a.2.1,a.2.2.1,a.2.2.2,.int .i64 b.1,.int .i64 b.2.1,b.2.2.1,b.2.2.2,.int .i64 c.1,.int .i64 c.2.1,c.2.2.1,c.2.2.2,.int .i64 d.1,.int .i64 d.2.1,d.2.2.1,d.2.2.2] 25 true false,0⟩
theorem bsL4 {lit:Bool} {H:Heap} {R1 T1 R2 T2 R3 T3 R4 T4:Int} {p1 s1 p2 s2 p3 s3 p4 s4:AVal} (hl:lit=false) :
  bsA prog lit H 110 4 [(0,lomV R1 T1 p1 s1),(1,lomV R2 T2 p2 s2),(2,lomV R3 T3 p3 s3),(3,lomV R4 T4 p4 s4)]=some (.slice (some ⟨H.length,0,0⟩) 4 4,H++[loomRow (R1,T1,p1,s1) (R2,T2,p2,s2) (R3,T3,p3,s3) (R4,T4,p4,s4)]):=by
 subst hl
 simp [bsA,rowOf,Fc.el110,fillA,repCells,AVal.isN,AVal.cells,splice,loomRow,lomV]
def tstRow (a b c d:Bool):ABlk:=⟨.cells [.bool a,.bool b,.bool c,.bool d] 4 true false,0⟩
theorem bsB4 {lit:Bool} {H:Heap} {a b c d:Bool} (hl:lit=false):bsA prog lit H 113 4 [(0,.bool a),(1,.bool b),(2,.bool c),(3,.bool d)]=some (.slice (some ⟨H.length,0,0⟩) 4 4,H++[tstRow a b c d]):=by
 subst hl
 simp [bsA,rowOf,Fc.el113,fillA,repCells,AVal.isN,AVal.cells,splice,tstRow]
theorem ldT4 {H:Heap} {a b c d:Bool} {k:Nat} (hk:k<4):loadP prog (H++[tstRow a b c d]) 4 (.ptr (some ⟨H.length,0,k⟩))=some (.bool ([a,b,c,d].getD k false)):=by
 rw [load_eq,Fc.ty4,get_eq rfl,tstRow,ldB_cell]
 rcases (by omega:k=0 ∨ k=1 ∨ k=2 ∨ k=3) with e|e|e|e<;>subst e<;>rfl
theorem adT4 {n k:Nat} (hk:k<4):indexAddrA prog 113 (.slice (some ⟨n,0,0⟩) 4 4) (.int .i64 (k:Int))=some (.ptr (some ⟨n,0,k⟩)):=by
 rw [adr_sl Fc.el113 Fc.ar113 (by omega) (by omega),Int.toNat_natCast,Nat.mul_one,Nat.zero_add]
theorem adL4 {n k:Nat} (hk:k<4):indexAddrA prog 110 (.slice (some ⟨n,0,0⟩) 4 4) (.int .i64 (k:Int))=some (.ptr (some ⟨n,0,k * 4⟩)):=by
 rw [adr_sl Fc.el110 Fc.ar110 (by omega) (by omega),Int.toNat_natCast,Nat.zero_add]
theorem ldL4 {H:Heap} {id k:Nat} {a b c d:Int × Int × AVal × AVal} (hg:H[id]?=some (loomRow a b c d)) (hk:k<4):∃ y,[a,b,c,d][k]?=some y∧loadP prog H 25 (.ptr (some ⟨id,0,k * 4⟩))=some (lomV y.1 y.2.1 y.2.2.1 y.2.2.2):=by
 have e:∀ o,o+4≤16→loadP prog H 25 (.ptr (some ⟨id,0,o⟩))=some (.agg (([AVal.int .i64 a.1,.int .i64 a.2.1,a.2.2.1,a.2.2.2,.int .i64 b.1,.int .i64 b.2.1,b.2.2.1,b.2.2.2,.int .i64 c.1,.int .i64 c.2.1,c.2.2.1,c.2.2.2,.int .i64 d.1,.int .i64 d.2.1,d.2.2.1,d.2.2.2].drop o).take 4)):=fun o ho=>by
  rw [load_eq,Fc.ty25,hg,loomRow,ldB_agg (by simp;omega)]
 rcases (by omega:k=0 ∨ k=1 ∨ k=2 ∨ k=3) with q|q|q|q<;>subst q
 ·exact ⟨_,rfl,e 0 (by decide)⟩
 ·exact ⟨_,rfl,e 4 (by decide)⟩
 ·exact ⟨_,rfl,e 8 (by decide)⟩
 ·exact ⟨_,rfl,e 12 (by decide)⟩
theorem prt_ok {ps:List Prt} (h:ps=psA ∨ ∃ n,ps=(List.range n).map prtD):∀ p ∈ ps,Small p.rib∧p.rib.length≤2:=by
 rcases h with rfl|⟨n,rfl⟩
 ·intro p hp
  simp only [psA,List.mem_cons,List.not_mem_nil,or_false] at hp
  rcases hp with rfl|rfl<;>exact ⟨⟨by simp,by simp⟩,by simp⟩
 ·intro p hp
  obtain ⟨d,_,rfl⟩:=List.mem_map.1 hp
  exact ⟨⟨by simp [prtD],by simp [prtD];omega⟩,by simp [prtD]⟩
theorem lomK_ok {a k:Nat} (ha:a<14) (hk:k<4):LomOk (lomK a k)∧(lomK a k).ps.length≤1048576∧(lomK a k).ss.length≤1048576∧∀ p ∈ (lomK a k).ps,p.rib.length≤1048576:=by
 have h1:(lomK a k).ps=psA ∨ ∃ n,(lomK a k).ps=(List.range n).map prtD:=by
  rcases (by omega:k=0 ∨ k=1 ∨ k=2 ∨ k=3) with q|q|q|q<;>subst q
  ·exact .inl rfl
  ·exact .inl rfl
  ·exact .inr ⟨_,rfl⟩
  ·exact .inl rfl
 have h2:=prt_ok h1
 have h3:(lomK a k).ps.length≤100:=by
  rcases (by omega:k=0 ∨ k=1 ∨ k=2 ∨ k=3) with q|q|q|q<;>subst q<;>simp [lomK,psA]<;>omega
 have h4:(lomK a k).ss.length≤100:=by
  rcases (by omega:k=0 ∨ k=1 ∨ k=2 ∨ k=3) with q|q|q|q<;>subst q<;>simp [lomK]<;>omega
 exact ⟨⟨fun p hp=>(h2 p hp).1,by omega,by omega,fun p _=>Int.le_refl _,fun p hp=>by have:=(h2 p hp).2;omega⟩,by omega,by omega,fun p hp=>by have:=(h2 p hp).2;omega⟩
end Go.AM
