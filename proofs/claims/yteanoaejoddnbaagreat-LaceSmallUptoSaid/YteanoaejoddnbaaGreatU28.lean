/-
  LaceSmall: all that is asked about a chain; the example with one number changed.
-/
import Derived.Test.YteanoaejoddnbaaGreatU22
import Derived.Test.YteanoaejoddnbaaGreatU23
import Derived.Test.YteanoaejoddnbaaGreatU24
import Derived.Test.YteanoaejoddnbaaGreatU25
import Derived.Test.YteanoaejoddnbaaGreatU27
import Derived.Test.YteanoaejoddnbaaGreatU20
set_option linter.unusedSimpArgs false
set_option linter.unusedVariables false
namespace Go.AM
open Go.Proofs.Tryz
attribute [-go_sem] put_ne put_same
attribute [local go_sem ↓] put_if
set_option maxHeartbeats 1000000 in
theorem run_asked {base:Nat} {h:Heap} {v0 v3 v5 v6:AVal} {p n:Int} {r:Rw3} (hL:LacN 1048576 h v0) (hO:IntsN 1048576 h v3) (hG:IntsN 1048576 h v5) (hR:IntsN 1048576 h v6) :
  callL prog raw base (.fn 5 [] []) [v0,.int .i64 p,.int .i64 n,v3,.agg [.int .i64 r.1,.int .i64 r.2.1,.int .i64 r.2.2],v5,v6] h=some (.bool true,h):=by
 obtain ⟨L,hL0,hn1,hn2⟩:=id hL
 obtain ⟨cv,rv,e0,hC,hRw⟩:=hL0
 obtain ⟨l3,i3,_⟩:=id hO
 obtain ⟨l5,i5,_⟩:=id hG
 obtain ⟨l6,i6,_⟩:=id hR
 have o1:=hC.one
 have o2:=hRw.one
 have o3:=i3.one
 have o4:=i5.one
 have o5:=i6.one
 subst e0
 obtain ⟨G,eG⟩:∃ G,G=h++[lacB L.T cv rv]++[rwB r]:=⟨_,rfl⟩
 have xG:Ext h G:=by rw [eG];exact .app (.app .refl)
 have g1:G[h.length]?=some (lacB L.T cv rv):=by rw [eG];exact get_app (get_eq rfl)
 have g2:G[h.length+1]?=some (rwB r):=by rw [eG];exact get_eq (by simp)
 have AG:LacN 1048576 G (.agg [.int .i64 L.T,cv,rv]):=hL.ext xG
 have c1:=fun base=>run_LaceChecks (base:=base) AG (v1:=.int .i64 p) ⟨p,rfl⟩ (hO.ext xG) (v3:=.int .i64 n) ⟨n,rfl⟩ (v4:=.agg [.int .i64 r.1,.int .i64 r.2.1,.int .i64 r.2.2]) ⟨r,rfl⟩
 have c2:=fun base=>run_LaceFinds (base:=base) AG (hO.ext xG)
 have c3:=fun base=>run_LaceGaps (base:=base) AG (hG.ext xG)
 have c4:=fun base=>run_LaceRings (base:=base) AG (hO.ext xG) (hR.ext xG)
 have c5:=fun base=>run_LaceAsks (base:=base) AG
 unfold lacB rwB at eG
 unfold lacB at g1
 unfold rwB at g2
 refine callL_run func5 rfl rfl ?_
 have hsp:=@Nat.succ_ne_zero;repeat' (first|simp (disch:=first|exact dq|fail) only [go_sem,↓reduceIte,hsp,← eG,g1,g2,c1,c2,c3,c4,c5]|refine WP_drw ?_|refine cnd_intro (fun hsp=>?_) fun hsp=>?_)
 exact fB rfl xG
theorem run_FourX {base r:Nat} {h:Heap} (hb:base≤h.length) (hr:r≤4):Ret prog raw base (.fn 4 [] []) [.int .i64 (r:Int)] h (fun w H=>Ext h H∧∃ C R,w=.agg [.int .i64 3,.slice (some ⟨C,0,0⟩) 4 4,.slice (some ⟨R,0,0⟩) r 4]∧H[C]?=some (rowB [1,2,3,4] 0)∧H[R]?=some (rowE encR 28 rws4 0)∧h.length≤R∧R<C):=by
 obtain ⟨H1,e1⟩:∃ H1,H1=h++[lacB 0 (.slice none 0 0) (.slice none 0 0)]:=⟨_,rfl⟩
 obtain ⟨H2,e2⟩:∃ H2,H2=H1++[rowE encR 28 rws4 0]:=⟨_,rfl⟩
 obtain ⟨H3,e3⟩:∃ H3,H3=H2++[rowB [1,2,3,4] 0]:=⟨_,rfl⟩
 have l1:H1.length=h.length+1:=by rw [e1];simp
 have l2:H2.length=h.length+2:=by rw [e2];simp [l1]
 have l3:H3.length=h.length+3:=by rw [e3];simp [l2]
 have x1:Ext h H1:=by rw [e1];exact .app .refl
 have x2:Ext H1 H2:=by rw [e2];exact .app .refl
 have x3:Ext H2 H3:=by rw [e3];exact .app .refl
 have g1:H3[h.length]?=some (lacB 0 (.slice none 0 0) (.slice none 0 0)):=x3.get (x2.get (by rw [e1];exact get_eq rfl))
 have g2:H3[H1.length]?=some (rowE encR 28 rws4 0):=x3.get (by rw [e2];exact get_eq rfl)
 have g3:H3[H2.length]?=some (rowB [1,2,3,4] 0):=by rw [e3];exact get_eq rfl
 have ln:∀ {H:Heap},lenOpA prog H 23 (.slice (some ⟨H1.length,0,0⟩) 4 4)=some (.int .i64 4):=fun {H}=>by simp [lenOpA,Fc.el23,lenA]
 have mn:min (r:Int) 4=(r:Int):=by omega
 have mx:max 0 (r:Int)=(r:Int):=by omega
 have sl:sliceA prog 23 (.slice (some ⟨H1.length,0,0⟩) 4 4) none (some (.int .i64 (r:Int))) none=some (.slice (some ⟨H1.length,0,0⟩) r 4):=by
  simp only [sliceA,Fc.ar23,Fc.el23,optB,boundI (show (0:Int)≤(r:Int) by omega) (show (r:Int)≤((4:Nat):Int) by omega)]
  simp [ARef.add]
 have hfin:Ext h (H3.set h.length (lacB 3 (.slice (some ⟨H2.length,0,0⟩) 4 4) (.slice (some ⟨H1.length,0,0⟩) r 4))):=((x1.trans x2).trans x3).set (Nat.le_refl _)
 have hf2:(H3.set h.length (lacB 3 (.slice (some ⟨H2.length,0,0⟩) 4 4) (.slice (some ⟨H1.length,0,0⟩) r 4)))[H2.length]?=some (rowB [1,2,3,4] 0):=by rw [List.getElem?_set_ne (by omega)];exact g3
 have hf3:(H3.set h.length (lacB 3 (.slice (some ⟨H2.length,0,0⟩) 4 4) (.slice (some ⟨H1.length,0,0⟩) r 4)))[H1.length]?=some (rowE encR 28 rws4 0):=by rw [List.getElem?_set_ne (by omega)];exact g2
 unfold lacB at e1 g1 hfin hf2 hf3
 refine ret_raw func4 rfl (by kernel_rfl) ?_
 have hsp:=@Nat.succ_ne_zero;repeat' (first|simp (disch:=first|exact dq|fail) only [go_sem,↓reduceIte,hsp,← e1,bsR4,← e2,bs4,← e3,ln,mn,mx,sl,g1]|refine WP_drw ?_|refine cnd_intro (fun hsp=>?_) fun hsp=>?_)
 exact ⟨hfin,_,_,rfl,hf2,hf3,by omega,by omega⟩
def upd (f:Nat→Int) (i:Nat) (n:Int):Nat→Int:=fun k=>if k=i then n else f k
def dfl:Nat→Int:=fun k=>[3,2,4,0,1,1,0,1,9,0,3,6,5,4,2,3,3,2].getD k 0
def intB1 (a:Int):ABlk:=⟨.cells [.int .i64 a] 3 false false,0⟩
structure TnL (H:Heap) (f:Nat→Int) (r C R N:Nat):Prop where
 gB:H[N+1]?=some (lacB (f 0) (.slice (some ⟨C,0,0⟩) 4 4) (.slice (some ⟨R,0,0⟩) r 4))
 gC:H[C]?=some (rowB [1,f 1,3,f 2] 0)
 gR:H[R]?=some (rowE encR 28 [(f 3,f 4,f 5),(5,6,f 6),(2,4,4),(3,4,4)] 0)
 gO:H[N]?=some (rowB [2,f 9,1,f 10] 0)
 gP:H[N+2]?=some (intB1 (f 7))
 gT:H[N+3]?=some (intB1 (f 8))
 gW:H[N+4]?=some (rwB (f 11,f 12,f 13))
 gG:H[N+5]?=some (rowB [f 14,f 15] 0)
 gI:H[N+6]?=some (rowB [f 16,f 17] 0)
 lo:R<C∧C<N
def tgt (C R N:Nat):Nat→ARef
 | 0=>⟨N+1,0,0⟩
 | 1=>⟨C,0,1⟩
 | 2=>⟨C,0,3⟩
 | 3=>⟨R,0,0⟩
 | 4=>⟨R,0,1⟩
 | 5=>⟨R,0,2⟩
 | 6=>⟨R,0,5⟩
 | 7=>⟨N+2,0,0⟩
 | 8=>⟨N+3,0,0⟩
 | 9=>⟨N,0,1⟩
 | 10=>⟨N,0,3⟩
 | 11=>⟨N+4,0,0⟩
 | 12=>⟨N+4,0,1⟩
 | 13=>⟨N+4,0,2⟩
 | 14=>⟨N+5,0,0⟩
 | 15=>⟨N+5,0,1⟩
 | 16=>⟨N+6,0,0⟩
 | _=>⟨N+6,0,1⟩
theorem st_cell {H:Heap} {id ver o base:Nat} {c:List AVal} {e:TypeId} {row:Bool} {n:Int} (hg:H[id]?=some ⟨.cells c e row false,ver⟩) (ho:o<c.length) (hb:base≤id) :
  stP prog base H 3 (.ptr (some ⟨id,ver,o⟩)) (.int .i64 n)=some (undefA,H.set id ⟨.cells (c.set o (.int .i64 n)) e row false,ver⟩):=by
 rw [Fc.st3 ⟨rfl,rfl,rfl⟩,hg,stQ_own hb (by simp;omega) (by simp [AVal.scalar])]
 rfl
set_option maxHeartbeats 4000000 in
theorem TnL.store {H:Heap} {f:Nat→Int} {r C R N base i:Nat} {n:Int} (s:TnL H f r C R N) (hb:base≤R) (hi:i<18) :
  ∃ H',stP prog base H 3 (.ptr (some (tgt C R N i))) (.int .i64 n)=some (undefA,H')∧TnL H' (upd f i n) r C R N∧H'.length=H.length∧∀ G,G.length≤R→Ext G H→Ext G H':=by
 obtain ⟨gB,gC,gR,gO,gP,gT,gW,gG,gI,lo⟩:=s
 have l0:=lt_of_get gB
 have l1:=lt_of_get gC
 have l2:=lt_of_get gR
 have l3:=lt_of_get gO
 have l4:=lt_of_get gP
 have l5:=lt_of_get gT
 have l6:=lt_of_get gW
 have l7:=lt_of_get gG
 have l8:=lt_of_get gI
 rcases (by omega:i=0 ∨ i=1 ∨ i=2 ∨ i=3 ∨ i=4 ∨ i=5 ∨ i=6 ∨ i=7 ∨ i=8 ∨ i=9 ∨ i=10 ∨ i=11 ∨ i=12 ∨ i=13 ∨ i=14 ∨ i=15 ∨ i=16 ∨ i=17) with e|e|e|e|e|e|e|e|e|e|e|e|e|e|e|e|e|e<;>subst e
 iterate 1 exact ⟨_,st_cell gB (by simp [ints]) (by omega),⟨by rw [List.getElem?_set_self l0];rfl,by rw [List.getElem?_set_ne (by omega)];exact gC,by rw [List.getElem?_set_ne (by omega)];exact gR,by rw [List.getElem?_set_ne (by omega)];exact gO,by rw [List.getElem?_set_ne (by omega)];exact gP,by rw [List.getElem?_set_ne (by omega)];exact gT,by rw [List.getElem?_set_ne (by omega)];exact gW,by rw [List.getElem?_set_ne (by omega)];exact gG,by rw [List.getElem?_set_ne (by omega)];exact gI,lo⟩,by simp,fun G hG x=>x.set (by omega)⟩
 iterate 2 exact ⟨_,st_cell gC (by simp [ints]) (by omega),⟨by rw [List.getElem?_set_ne (by omega)];exact gB,by rw [List.getElem?_set_self l1];rfl,by rw [List.getElem?_set_ne (by omega)];exact gR,by rw [List.getElem?_set_ne (by omega)];exact gO,by rw [List.getElem?_set_ne (by omega)];exact gP,by rw [List.getElem?_set_ne (by omega)];exact gT,by rw [List.getElem?_set_ne (by omega)];exact gW,by rw [List.getElem?_set_ne (by omega)];exact gG,by rw [List.getElem?_set_ne (by omega)];exact gI,lo⟩,by simp,fun G hG x=>x.set (by omega)⟩
 iterate 4 exact ⟨_,st_cell gR (by simp [flat,encR]) (by omega),⟨by rw [List.getElem?_set_ne (by omega)];exact gB,by rw [List.getElem?_set_ne (by omega)];exact gC,by rw [List.getElem?_set_self l2];rfl,by rw [List.getElem?_set_ne (by omega)];exact gO,by rw [List.getElem?_set_ne (by omega)];exact gP,by rw [List.getElem?_set_ne (by omega)];exact gT,by rw [List.getElem?_set_ne (by omega)];exact gW,by rw [List.getElem?_set_ne (by omega)];exact gG,by rw [List.getElem?_set_ne (by omega)];exact gI,lo⟩,by simp,fun G hG x=>x.set (by omega)⟩
 iterate 1 exact ⟨_,st_cell gP (by simp [ints]) (by omega),⟨by rw [List.getElem?_set_ne (by omega)];exact gB,by rw [List.getElem?_set_ne (by omega)];exact gC,by rw [List.getElem?_set_ne (by omega)];exact gR,by rw [List.getElem?_set_ne (by omega)];exact gO,by rw [List.getElem?_set_self l4];rfl,by rw [List.getElem?_set_ne (by omega)];exact gT,by rw [List.getElem?_set_ne (by omega)];exact gW,by rw [List.getElem?_set_ne (by omega)];exact gG,by rw [List.getElem?_set_ne (by omega)];exact gI,lo⟩,by simp,fun G hG x=>x.set (by omega)⟩
 iterate 1 exact ⟨_,st_cell gT (by simp [ints]) (by omega),⟨by rw [List.getElem?_set_ne (by omega)];exact gB,by rw [List.getElem?_set_ne (by omega)];exact gC,by rw [List.getElem?_set_ne (by omega)];exact gR,by rw [List.getElem?_set_ne (by omega)];exact gO,by rw [List.getElem?_set_ne (by omega)];exact gP,by rw [List.getElem?_set_self l5];rfl,by rw [List.getElem?_set_ne (by omega)];exact gW,by rw [List.getElem?_set_ne (by omega)];exact gG,by rw [List.getElem?_set_ne (by omega)];exact gI,lo⟩,by simp,fun G hG x=>x.set (by omega)⟩
 iterate 2 exact ⟨_,st_cell gO (by simp [ints]) (by omega),⟨by rw [List.getElem?_set_ne (by omega)];exact gB,by rw [List.getElem?_set_ne (by omega)];exact gC,by rw [List.getElem?_set_ne (by omega)];exact gR,by rw [List.getElem?_set_self l3];rfl,by rw [List.getElem?_set_ne (by omega)];exact gP,by rw [List.getElem?_set_ne (by omega)];exact gT,by rw [List.getElem?_set_ne (by omega)];exact gW,by rw [List.getElem?_set_ne (by omega)];exact gG,by rw [List.getElem?_set_ne (by omega)];exact gI,lo⟩,by simp,fun G hG x=>x.set (by omega)⟩
 iterate 3 exact ⟨_,st_cell gW (by simp [ints]) (by omega),⟨by rw [List.getElem?_set_ne (by omega)];exact gB,by rw [List.getElem?_set_ne (by omega)];exact gC,by rw [List.getElem?_set_ne (by omega)];exact gR,by rw [List.getElem?_set_ne (by omega)];exact gO,by rw [List.getElem?_set_ne (by omega)];exact gP,by rw [List.getElem?_set_ne (by omega)];exact gT,by rw [List.getElem?_set_self l6];rfl,by rw [List.getElem?_set_ne (by omega)];exact gG,by rw [List.getElem?_set_ne (by omega)];exact gI,lo⟩,by simp,fun G hG x=>x.set (by omega)⟩
 iterate 2 exact ⟨_,st_cell gG (by simp [ints]) (by omega),⟨by rw [List.getElem?_set_ne (by omega)];exact gB,by rw [List.getElem?_set_ne (by omega)];exact gC,by rw [List.getElem?_set_ne (by omega)];exact gR,by rw [List.getElem?_set_ne (by omega)];exact gO,by rw [List.getElem?_set_ne (by omega)];exact gP,by rw [List.getElem?_set_ne (by omega)];exact gT,by rw [List.getElem?_set_ne (by omega)];exact gW,by rw [List.getElem?_set_self l7];rfl,by rw [List.getElem?_set_ne (by omega)];exact gI,lo⟩,by simp,fun G hG x=>x.set (by omega)⟩
 iterate 2 exact ⟨_,st_cell gI (by simp [ints]) (by omega),⟨by rw [List.getElem?_set_ne (by omega)];exact gB,by rw [List.getElem?_set_ne (by omega)];exact gC,by rw [List.getElem?_set_ne (by omega)];exact gR,by rw [List.getElem?_set_ne (by omega)];exact gO,by rw [List.getElem?_set_ne (by omega)];exact gP,by rw [List.getElem?_set_ne (by omega)];exact gT,by rw [List.getElem?_set_ne (by omega)];exact gW,by rw [List.getElem?_set_ne (by omega)];exact gG,by rw [List.getElem?_set_self l8];rfl,lo⟩,by simp,fun G hG x=>x.set (by omega)⟩
def rng63 (n:Int):Prop:=-9223372036854775808≤n∧n<9223372036854775808
theorem ints_rowB {H:Heap} {A n:Nat} {l:List Int} (hg:H[A]?=some (rowB l 0)) (hs:Small l) (hn:n=l.length):Ints H (.slice (some ⟨A,0,0⟩) n n) l:=by
 subst hn
 exact (Rows.own (E:=encI) (e:=3) (by rw [rowE,flat_encI];exact hg) rfl (by have:=hs.1;omega)).ints hs.2
theorem sm_of {l:List Int} (h1:l.length<1073741824) (h:∀ n ∈ l,rng63 n):Small l:=⟨by omega,h⟩
theorem rows_part {H:Heap} {R r:Nat} {l:List Rw3} (g:H[R]?=some (rowE encR 28 l 0)) (hl:l.length=4) (hr:r≤4):Rows encR H (.slice (some ⟨R,0,0⟩) r 4) (l.take r):=by
 have hlen:(l.take r).length=r:=by rw [List.length_take];omega
 have hfl:(flat encR l).length=12:=by rw [flat_len,hl];rfl
 refine ⟨by rw [hlen];omega,.inr (.inr ⟨⟨R,0,0⟩,4,flat encR l,28,true,false,by rw [hlen],g,?_,?_,by rw [hlen];omega⟩)⟩
 ·show ((flat encR l).drop 0).take ((l.take r).length * 3)=flat encR (l.take r)
  rw [hlen,List.drop_zero]
  obtain ⟨a,b,c,d,rfl⟩:∃ a b c d,l=[a,b,c,d]:=by
   match l,hl with
   | [a,b,c,d],_=>exact ⟨a,b,c,d,rfl⟩
  rcases (by omega:r=0 ∨ r=1 ∨ r=2 ∨ r=3 ∨ r=4) with rfl|rfl|rfl|rfl|rfl<;>rfl
 ·show 0+(l.take r).length * 3≤(flat encR l).length
  rw [hlen,hfl];omega
theorem TnL.lac {H:Heap} {f:Nat→Int} {r C R N:Nat} (s:TnL H f r C R N) (hr:r≤4) (hf:∀ k,rng63 (f k)):LacN 1048576 H (.agg [.int .i64 (f 0),.slice (some ⟨C,0,0⟩) 4 4,.slice (some ⟨R,0,0⟩) r 4]) :=
 ⟨⟨f 0,[1,f 1,3,f 2],[(f 3,f 4,f 5),(5,6,f 6),(2,4,4),(3,4,4)].take r⟩,⟨_,_,rfl,ints_rowB s.gC (sm_of (by simp) fun x hx=>by
  simp only [List.mem_cons,List.not_mem_nil,or_false] at hx
  rcases hx with rfl|rfl|rfl|rfl
  ·exact ⟨by decide,by decide⟩
  ·exact hf 1
  ·exact ⟨by decide,by decide⟩
  ·exact hf 2) rfl,rows_part s.gR rfl hr⟩,by simp,by simp only [List.length_take];exact Nat.le_trans (Nat.min_le_right _ _) (by simp)⟩
theorem TnL.ord {H:Heap} {f:Nat→Int} {r C R N:Nat} (s:TnL H f r C R N) (hf:∀ k,rng63 (f k)):IntsN 1048576 H (.slice (some ⟨N,0,0⟩) 4 4) :=
 ⟨_,ints_rowB s.gO (sm_of (by simp) fun x hx=>by
  simp only [List.mem_cons,List.not_mem_nil,or_false] at hx
  rcases hx with rfl|rfl|rfl|rfl
  ·exact ⟨by decide,by decide⟩
  ·exact hf 9
  ·exact ⟨by decide,by decide⟩
  ·exact hf 10) rfl,by simp⟩
theorem TnL.gap {H:Heap} {f:Nat→Int} {r C R N:Nat} (s:TnL H f r C R N) (hf:∀ k,rng63 (f k)):IntsN 1048576 H (.slice (some ⟨N+5,0,0⟩) 2 2) :=
 ⟨_,ints_rowB s.gG (sm_of (by simp) fun x hx=>by
  simp only [List.mem_cons,List.not_mem_nil,or_false] at hx
  rcases hx with rfl|rfl
  ·exact hf 14
  ·exact hf 15) rfl,by simp⟩
theorem TnL.ring {H:Heap} {f:Nat→Int} {r C R N:Nat} (s:TnL H f r C R N) (hf:∀ k,rng63 (f k)):IntsN 1048576 H (.slice (some ⟨N+6,0,0⟩) 2 2) :=
 ⟨_,ints_rowB s.gI (sm_of (by simp) fun x hx=>by
  simp only [List.mem_cons,List.not_mem_nil,or_false] at hx
  rcases hx with rfl|rfl
  ·exact hf 16
  ·exact hf 17) rfl,by simp⟩
theorem dfl_rng (k:Nat):rng63 (dfl k):=by
 by_cases h:k<18
 ·have:∀ k:Fin 18,-9223372036854775808≤dfl k∧dfl k<9223372036854775808:=by decide
  exact this ⟨k,h⟩
 ·unfold rng63 dfl
  rw [List.getD_eq_getElem?_getD,List.getElem?_eq_none (by simp;omega)]
  exact ⟨by decide,by decide⟩
theorem upd_rng {f:Nat→Int} {i:Nat} {n:Int} (hf:∀ k,rng63 (f k)) (hn:rng63 n):∀ k,rng63 (upd f i n k):=fun k=>by
 unfold upd
 split
 ·exact hn
 ·exact hf k
end Go.AM
namespace Go.AM
open Go.Proofs.Tryz
attribute [-go_sem] put_ne put_same
attribute [local go_sem ↓] put_if
def valL:List Int:=[-9223372036854775808,-1,0,1,2,3,4,5,7,8,9,255,256,999,1000,9223372036854775807]
theorem valL_rng:∀ x ∈ valL,rng63 x:=by unfold rng63;decide
theorem bsI2 {lit:Bool} {H:Heap} {x0 x1:Int} (hl:lit=false):bsA prog lit H 22 2 [(0,.int .i64 x0),(1,.int .i64 x1)]=some (.slice (some ⟨H.length,0,0⟩) 2 2,H++[rowB [x0,x1] 0]):=by
 subst hl;simp [bsA,rowOf,Fc.el22,fillA,repCells,AVal.isN,AVal.cells,splice,rowB,ints]
theorem bsI16 {lit:Bool} {H:Heap} {x0 x1 x2 x3 x4 x5 x6 x7 x8 x9 x10 x11 x12 x13 x14 x15:Int} (hl:lit=false):bsA prog lit H 22 16 [(0,.int .i64 x0),(1,.int .i64 x1),(2,.int .i64 x2),(3,.int .i64 x3),(4,.int .i64 x4),(5,.int .i64 x5),(6,.int .i64 x6),(7,.int .i64 x7),(8,.int .i64 x8),(9,.int .i64 x9),(10,.int .i64 x10),(11,.int .i64 x11),(12,.int .i64 x12),(13,.int .i64 x13),(14,.int .i64 x14),(15,.int .i64 x15)]=some (.slice (some ⟨H.length,0,0⟩) 16 16,H++[rowB [x0,x1,x2,x3,x4,x5,x6,x7,x8,x9,x10,x11,x12,x13,x14,x15] 0]):=by
 subst hl;simp [bsA,rowOf,Fc.el22,fillA,repCells,AVal.isN,AVal.cells,splice,rowB,ints]
theorem bsP18 {lit:Bool} {H:Heap} {r0 r1 r2 r3 r4 r5 r6 r7 r8 r9 r10 r11 r12 r13 r14 r15 r16 r17:ARef} (hl:lit=false) :
  bsA prog lit H 30 18 [(0,.ptr (some r0)),(1,.ptr (some r1)),(2,.ptr (some r2)),(3,.ptr (some r3)),(4,.ptr (some r4)),(5,.ptr (some r5)),(6,.ptr (some r6)),(7,.ptr (some r7)),(8,.ptr (some r8)),(9,.ptr (some r9)),(10,.ptr (some r10)),(11,.ptr (some r11)),(12,.ptr (some r12)),(13,.ptr (some r13)),(14,.ptr (some r14)),(15,.ptr (some r15)),(16,.ptr (some r16)),(17,.ptr (some r17))]=some (.slice (some ⟨H.length,0,0⟩) 18 18,H++[⟨.cells [.ptr (some r0),.ptr (some r1),.ptr (some r2),.ptr (some r3),.ptr (some r4),.ptr (some r5),.ptr (some r6),.ptr (some r7),.ptr (some r8),.ptr (some r9),.ptr (some r10),.ptr (some r11),.ptr (some r12),.ptr (some r13),.ptr (some r14),.ptr (some r15),.ptr (some r16),.ptr (some r17)] 29 true false,0⟩]):=by
 subst hl
 simp [bsA,rowOf,Fc.el30,fillA,repCells,AVal.isN,AVal.cells,splice]
theorem tmodI {a b:Int} {m n:Nat} (ha:a=(m:Int)) (hb:b=(n:Int)):a.tmod b=((m % n:Nat):Int):=by subst ha hb;rfl
end Go.AM
namespace Go.AM
open Go.Proofs.Tryz
attribute [-go_sem] put_ne put_same
attribute [local go_sem ↓] put_if
def sgm (j:Nat):Nat:=if j=0 then 1 else if j=1 then 0 else j
theorem sgm_inj {i j:Nat} (h:i ≠ j):sgm i ≠ sgm j:=by
 unfold sgm
 intro e
 repeat' (split at e)
 all_goals omega
theorem swz_get {α:Type} {l:List α} {a b:α} (h0:l[0]?=some a) (h1:l[1]?=some b) (j:Nat):((l.set 0 b).set 1 a)[j]?=l[sgm j]?:=by
 have hl:=(List.getElem?_eq_some_iff.1 h1).1
 unfold sgm
 rw [List.getElem?_set,List.length_set,List.getElem?_set]
 by_cases c1:j=1
 ·subst c1;rw [if_pos rfl,if_pos hl,if_neg (by decide),if_pos rfl,h0]
 ·rw [if_neg (fun e=>c1 e.symm)]
  by_cases c0:j=0
  ·subst c0;rw [if_pos rfl,if_pos (by omega),if_pos rfl,h1]
  ·rw [if_neg (fun e=>c0 e.symm),if_neg c0,if_neg c1]
theorem ldB_cellE {α:Type} {E:Enc α} {e:TypeId} {l:List α} {i o ver z:Nat} {x:α} {a:AVal} (hx:l[i]?=some x) (ho:(E.cells x)[o]?=some a):ldB (some (false,z)) (some (rowE E e l ver)) ver (i * E.z+o)=some a:=by
 have hoz:=(List.getElem?_eq_some_iff.1 ho).1
 rw [E.len] at hoz
 have hg:=flat_get E hx
 unfold rowE
 rw [ldB_cell]
 rw [← hg,List.getElem?_take,if_pos hoz,List.getElem?_drop] at ho
 exact ho
theorem ldB_rowZ {H:Heap} {id ver i z:Nat} {vs:List AVal} {w:AVal} (g:H[id]?=some (rowE encZ 22 vs ver)) (hw:vs[i]?=some w) (ow:One w):ldB (some (false,z)) (H[id]?) ver i=some w:=by
 have:=ldB_cellE (E:=encZ) (e:=22) (l:=vs) (i:=i) (o:=0) (ver:=ver) (z:=z) (x:=w) (a:=w) hw (by simp only [encZ,norm_one ow];rfl)
 rw [show i * encZ.z+0=i from Nat.mul_one i] at this
 rw [g];exact this
theorem stQ_rowZ {base id ver i:Nat} {vs:List AVal} {w:AVal} {F:ABlk→Heap} (hi:i<vs.length) (ow:One w) (hb:base≤id):stQ base id (some (rowE encZ 22 vs ver)) ver i [w] F=some (F (rowE encZ 22 (vs.set i w) ver)):=by
 have:=stQ_rowE (base:=base) (ver:=ver) (e:=22) (id:=id) (x:=w) (K:=F) hi (encZ_sc w) hb
 rw [show encZ.cells w=[w] by simp only [encZ,norm_one ow],show i * encZ.z=i from Nat.mul_one i] at this
 exact this
theorem PilAt.swp {base b b2:Nat} {H:Heap} {u mv:AVal} {vs:List AVal} {ps:List (List Int)} {ms:List (Int × Int)} (x:PilAt b H u vs ps) (hb:base≤b) (h2:1<ps.length) (hps:ps.length≤1000) (hm:Own encM 41 b2 H mv ms) :
  ∃ id ver w0 w1 H2 H3 t0 t1,u=.slice (some ⟨id,ver,0⟩) vs.length vs.length∧(∀ z,ldB (some (false,z)) (H[id]?) ver 0=some w0)∧(∀ z,ldB (some (false,z)) (H[id]?) ver 1=some w1)∧One w0∧One w1 ∧
   stQ base id (H[id]?) ver 0 [w1] (fun b=>H.set id b)=some H2∧stQ base id (H2[id]?) ver 1 [w0] (fun b=>H2.set id b)=some H3∧H3.length=H.length∧(∀ G,G.length≤b→Ext G H→Ext G H3)∧Own encM 41 b2 H3 mv ms ∧
   ps[0]?=some t0∧ps[1]?=some t1∧PilAt b H3 u ((vs.set 0 w1).set 1 w0) ((ps.set 0 t1).set 1 t0):=by
 have hlen:=x.len
 obtain ⟨w0,hw0⟩:∃ w,vs[0]?=some w:=⟨_,List.getElem?_eq_getElem (by omega)⟩
 obtain ⟨w1,hw1⟩:∃ w,vs[1]?=some w:=⟨_,List.getElem?_eq_getElem (by omega)⟩
 obtain ⟨t0,ht0⟩:∃ w,ps[0]?=some w:=⟨_,List.getElem?_eq_getElem (by omega)⟩
 obtain ⟨t1,ht1⟩:∃ w,ps[1]?=some w:=⟨_,List.getElem?_eq_getElem (by omega)⟩
 have ow0:=(x.el 0 w0 t0 hw0 ht0).one
 have ow1:=(x.el 1 w1 t1 hw1 ht1).one
 obtain ⟨id,ver,eu,gu,hid⟩:=(Or.inl x.own:OwnE encZ 22 b H u vs) |> fun z=>OwnE.pos z (by omega)
 have lid:=lt_of_get gu
 obtain ⟨H2,eH2⟩:∃ H2,H2=H.set id (rowE encZ 22 (vs.set 0 w1) ver):=⟨_,rfl⟩
 have g2:H2[id]?=some (rowE encZ 22 (vs.set 0 w1) ver):=by rw [eH2,List.getElem?_set_self lid]
 obtain ⟨H3,eH3⟩:∃ H3,H3=H2.set id (rowE encZ 22 ((vs.set 0 w1).set 1 w0) ver):=⟨_,rfl⟩
 have l2:H2.length=H.length:=by rw [eH2,List.length_set]
 have s1:stQ base id (H[id]?) ver 0 [w1] (fun b=>H.set id b)=some H2:=by
  rw [gu,stQ_rowZ (by omega) ow1 (by omega),eH2]
 have s2:stQ base id (H2[id]?) ver 1 [w0] (fun b=>H2.set id b)=some H3:=by
  rw [g2,stQ_rowZ (by rw [List.length_set];omega) ow0 (by omega),eH3]
 have mvO:∀ {α:Type} {E:Enc α} {e:TypeId} {c:Nat} {v:AVal} {l:List α},Own E e c H v l→e ≠ 22→Own E e c H3 v l:=fun {α E e c v l} y hne=>by
  rw [eH3]
  refine Own.setRow (E:=encZ) (e:=22) ?_ g2 hne
  rw [eH2]
  exact Own.setRow (E:=encZ) (e:=22) y gu hne
 refine ⟨id,ver,w0,w1,H2,H3,t0,t1,eu,fun z=>ldB_rowZ gu hw0 ow0,fun z=>ldB_rowZ gu hw1 ow1,ow0,ow1,s1,s2,by rw [eH3,List.length_set,l2],fun G hG e=>?_,mvO hm (by decide),ht0,ht1,?_,by simp [hlen],fun i y t g1 g2'=>?_,fun i j y y' hne g1 g2'=>?_⟩
 ·rw [eH3,eH2]
  exact (e.set (by omega)).set (by omega)
 ·exact .inr ⟨id,ver,by simpa using eu,by rw [eH3,List.getElem?_set_self (by omega)],hid,by simp;omega⟩
 ·rw [swz_get hw0 hw1] at g1
  rw [swz_get ht0 ht1] at g2'
  exact mvO (x.el _ y t g1 g2') (by decide)
 ·rw [swz_get hw0 hw1] at g1 g2'
  exact x.apart _ _ y y' (sgm_inj hne) g1 g2'
theorem PilAt.put2 {base b b2:Nat} {H:Heap} {u w mv:AVal} {vs:List AVal} {ps:List (List Int)} {t:List Int} {p:Int} {ms:List (Int × Int)} (x:PilAt b H u vs ps) (hb:base≤b) (hbh:b≤H.length) (hw:vs[0]?=some w) (ht:ps[0]?=some t) (hl:t.length≤1000) (hps:ps.length≤1000) (hm:Own encM 41 b2 H mv ms) :
  ∃ w' H2 H3 id ver,One w'∧u=.slice (some ⟨id,ver,0⟩) vs.length vs.length∧(∀ z,ldB (some (false,z)) (H[id]?) ver 0=some w)∧appendA prog base H 22 w (.vals [.int .i64 p])=some (w',H2) ∧
   stQ base id (H2[id]?) ver 0 [w'] (fun b=>H2.set id b)=some H3∧H.length≤H3.length∧(∀ G,G.length≤b→Ext G H→Ext G H3)∧PilAt b H3 u (vs.set 0 w') (ps.set 0 (t++[p]))∧Own encM 41 b2 H3 mv ms:=by
 have hlen:=x.len
 have h0:=(List.getElem?_eq_some_iff.1 hw).1
 have hO:=x.el 0 w t hw ht
 obtain ⟨w',H2,H3,id,ver,h1,h2,-,h4,h5,h6,h7,h8,h9,h10⟩:=put_facts (base:=base) (i:=0) (p:=p) x hb hbh hw ht hl hps
 have ea:=app_sn1 (P:=prog) (y:=p) (a:=.int .i64 p) (base:=base) (t:=22) hO rfl rfl Fc.el22 encI_sc hb (by omega)
 have eH2:H2=snH encI 3 H w t [p]:=by
  rw [h4] at ea
  exact (Prod.mk.inj (Option.some.inj ea)).2
 have hm2:Own encM 41 b2 H2 mv ms:=by rw [eH2];exact hm.sn_oth (asun_ne hO hm (by decide))
 have hm3:Own encM 41 b2 H3 mv ms:=by rw [← h7];exact hm2.setRow h5 (by decide)
 have gu:H[id]?=some (rowE encZ 22 vs ver):=by
  rcases x.own with ⟨_,q⟩|⟨i,v,q,g,_⟩
  ·rw [q] at h0;simp at h0
  ·rw [h2] at q;cases q;exact g
 exact ⟨w',H2,H3,id,ver,h1,h2,fun z=>ldB_rowZ gu hw hO.one,h4,by rw [h5,h6];exact congrArg some h7,h8,h9,h10,hm3⟩
theorem PilAt.keep {b:Nat} {h h':Heap} {u:AVal} {vs:List AVal} {ps:List (List Int)} (x:PilAt b h u vs ps) (k:KeepO encM 41 h h'):PilAt b h' u vs ps :=
 ⟨k.own x.own (by decide),x.len,fun i y t g1 g2=>k.own (x.el i y t g1 g2) (by decide),x.apart⟩
def PilB (ps:List (List Int)):Prop:=ps.length≤7∧∀ t ∈ ps,t.length≤7∧∀ y ∈ t,0≤y∧y≤1000
theorem PilAt.pil {b:Nat} {H:Heap} {u:AVal} {vs:List AVal} {ps:List (List Int)} (x:PilAt b H u vs ps) (h1:ps.length≤7) (h2:∀ t ∈ ps,t.length≤8∧∀ y ∈ t,0≤y∧y≤1000):PilN 1048576 H u :=
 ⟨ps,⟨vs,x.own.rows (by have:=x.len;omega),x.len,fun i y t g1 g2=>own_ints (x.el i y t g1 g2) (by
  have:=h2 t (List.mem_of_getElem? g2)
  exact ⟨by omega,fun z hz=>by have:=this.2 z hz;omega⟩)⟩,by omega,fun t ht=>by have:=(h2 t ht).1;omega⟩
theorem PilB.swp {ps:List (List Int)} {t0 t1:List Int} (h:PilB ps) (h0:ps[0]?=some t0) (h1:ps[1]?=some t1):PilB ((ps.set 0 t1).set 1 t0):=by
 refine ⟨by simp;exact h.1,fun t ht=>?_⟩
 rcases List.mem_or_eq_of_mem_set ht with ht|rfl
 ·rcases List.mem_or_eq_of_mem_set ht with ht|rfl
  ·exact h.2 t ht
  ·exact h.2 _ (List.mem_of_getElem? h1)
 ·exact h.2 _ (List.mem_of_getElem? h0)
theorem PilB.put {ps:List (List Int)} {t:List Int} {p:Int} (h:PilB ps) (h0:ps[0]?=some t) (hp:0≤p∧p≤1000):(ps.set 0 (t++[p])).length≤7∧∀ t' ∈ ps.set 0 (t++[p]),t'.length≤8∧∀ y ∈ t',0≤y∧y≤1000:=by
 refine ⟨by simp;exact h.1,fun t' ht=>?_⟩
 rcases List.mem_or_eq_of_mem_set ht with ht|rfl
 ·have:=h.2 t' ht;exact ⟨by omega,this.2⟩
 ·have:=h.2 t (List.mem_of_getElem? h0)
  refine ⟨by simp;omega,fun y hy=>?_⟩
  rcases List.mem_append.1 hy with hy|hy
  ·exact this.2 y hy
  ·rw [List.mem_singleton] at hy;omega
theorem pil_mnd {c:Nat} {o:List Int} (hc:c≤7) (h:Ord c o):PilB (pilE o).1∧(mndE o).1.length≤7:=by
 by_cases q:aloL o=0
 ·obtain ⟨c1,c2,c3⟩:=aloL_iff.1 q
  have hc1:1≤c:=by have:=h.1;omega
  obtain ⟨-,-,a3,-,a5,a6,-,a8⟩:=ord_all5 ⟨hc1,hc⟩ h
  have hdn:=pilN_ok (ord_dist h) (Nat.le_refl o.length)
  rw [a3,a6]
  refine ⟨⟨by simp only;omega,fun t ht=>?_⟩,by simp only;omega⟩
  have h1:t.Sublist (pilN o o.length).flatten:=List.sublist_flatten_of_mem ht
  have h2:=h1.length_le
  rw [hdn.all.length_eq,upto_len] at h2
  refine ⟨by omega,fun y hy=>?_⟩
  have:=upto_mem.1 (hdn.all.mem_iff.1 (h1.subset hy))
  omega
 ·unfold pilE mndE
  rw [if_neg q,if_neg q]
  exact ⟨⟨by simp,by simp⟩,by simp⟩
theorem ords_few {c:Nat} (hc:c<6):(ordsF (fun _ _=>true) c c []).length≤120:=by
 have:∀ c:Fin 6,(ordsF (fun _ _=>true) c c []).length≤120:=by decide +kernel
 exact this ⟨c,hc⟩
end Go.AM
namespace Go.AM
open Go.Proofs.Tryz
attribute [-go_sem] put_ne put_same
attribute [local go_sem ↓] put_if
theorem frs_small {L:Lac}:(frsE L).1.length≤7∧Small (frsE L).1:=by
 unfold frsE
 split
 ·rename_i q
  obtain ⟨h1,h2,-⟩:=fndE_ok q
  have hn:=(chkL_iff.1 h1).n
  have hm:(fnd L).headD [] ∈ fnd L:=by
   cases q:fnd L with
   | nil=>exact absurd q h2
   | cons a l=>exact List.mem_cons_self ..
  have ho:=fnd_ord hm
  exact ⟨by have:=ho.1;simp only;omega,ord_small ho (by omega)⟩
 ·exact ⟨by simp,by simp,by simp⟩
theorem gap_small {L:Lac} {l:List Int} (h1:gapE L ≠ 0→l=[]) (h2:gapE L=0→chkL L=0∧gapO L=some l):l.length≤7∧Small l:=by
 by_cases c:gapE L=0
 ·obtain ⟨g1,g2⟩:=h2 c
  obtain ⟨-,-,g3,g4⟩:=gap_is g1 g2
  have hn:=(chkL_iff.1 g1).n
  exact ⟨by omega,g4⟩
 ·rw [h1 c]
  exact ⟨by simp,by simp,by simp⟩
theorem ring_small {L:Lac} {l:List Int} (h1:rngE L ≠ 0→l=[]) (h2:rngE L=0→IsRing L l):l.length≤1000∧Small l:=by
 by_cases c:rngE L=0
 ·have hc:chkL L=0:=by
   unfold rngE at c
   by_cases q:(fndE L).2=0
   ·exact (fndE_ok q).1
   ·rw [if_neg q] at c;exact absurd c q
  obtain ⟨-,-,-,g4⟩:=ring_is hc (h2 c)
  exact ⟨ring_few hc (h2 c),g4⟩
 ·rw [h1 c]
  exact ⟨by simp,by simp,by simp⟩
theorem ints_snoc {l:List Int} {x:Int} (hs:Small l) (hl:l.length≤1000) (hx:rng63 x):Small (l++[x]):=⟨by simp;omega,fun y hy=>by
 rcases List.mem_append.1 hy with hy|hy
 ·exact hs.2 y hy
 ·rw [List.mem_singleton] at hy;rw [hy];exact hx⟩
theorem ldB_rowI {H:Heap} {id ver i z:Nat} {l:List Int} (g:H[id]?=some (rowE encI 3 l ver)) (hi:i<l.length):ldB (some (false,z)) (H[id]?) ver i=some (.int .i64 (l.getD i 0)):=by
 rw [g,rowE,flat_encI,ldB_ints hi]
theorem stQ_rowI {base id ver i:Nat} {l:List Int} {y:Int} {F:ABlk→Heap} (hi:i<l.length):stQ base id (some (rowE encI 3 l ver)) ver i [.int .i64 y] F=some (F (rowE encI 3 (l.set i y) ver)):=by
 rw [rowE,rowE,flat_encI,flat_encI];exact stQ_ints hi
theorem OwnE.swp {base b:Nat} {H:Heap} {u:AVal} {l:List Int} (x:OwnE encI 3 b H u l) (h2:1<l.length) (hl:l.length≤1000) (hs:Small l) :
  ∃ id ver H2 H3,u=.slice (some ⟨id,ver,0⟩) l.length l.length∧(∀ z,ldB (some (false,z)) (H[id]?) ver 0=some (.int .i64 (l.getD 0 0)))∧(∀ z,ldB (some (false,z)) (H[id]?) ver 1=some (.int .i64 (l.getD 1 0))) ∧
   stQ base id (H[id]?) ver 0 [.int .i64 (l.getD 1 0)] (fun b=>H.set id b)=some H2∧stQ base id (H2[id]?) ver 1 [.int .i64 (l.getD 0 0)] (fun b=>H2.set id b)=some H3∧H3.length=H.length∧(∀ G,G.length≤b→Ext G H→Ext G H3) ∧
   IntsN 1048576 H3 u:=by
 obtain ⟨id,ver,eu,gu,hid⟩:=OwnE.pos x (by omega)
 have lid:=lt_of_get gu
 obtain ⟨H2,eH2⟩:∃ H2,H2=H.set id (rowE encI 3 (l.set 0 (l.getD 1 0)) ver):=⟨_,rfl⟩
 have g2:H2[id]?=some (rowE encI 3 (l.set 0 (l.getD 1 0)) ver):=by rw [eH2,List.getElem?_set_self lid]
 obtain ⟨H3,eH3⟩:∃ H3,H3=H2.set id (rowE encI 3 ((l.set 0 (l.getD 1 0)).set 1 (l.getD 0 0)) ver):=⟨_,rfl⟩
 have l2:H2.length=H.length:=by rw [eH2,List.length_set]
 refine ⟨id,ver,H2,H3,eu,fun z=>ldB_rowI gu (by omega),fun z=>ldB_rowI gu (by omega),?_,?_,by rw [eH3,List.length_set,l2],fun G hG e=>?_,?_⟩
 ·rw [gu,stQ_rowI (by omega),eH2]
 ·rw [g2,stQ_rowI (by rw [List.length_set];omega),eH3]
 ·rw [eH3,eH2]
  exact (e.set (by omega)).set (by omega)
 ·have o3:Own encI 3 b H3 u ((l.set 0 (l.getD 1 0)).set 1 (l.getD 0 0)):=.inr ⟨id,ver,by simpa using eu,by rw [eH3,List.getElem?_set_self (by omega)],hid,by simp;omega⟩
  exact ⟨_,own_ints o3 ⟨by simp;omega,fun z hz=>by
   rcases List.mem_or_eq_of_mem_set hz with hz|rfl
   ·rcases List.mem_or_eq_of_mem_set hz with hz|rfl
    ·exact hs.2 z hz
    ·exact hs.2 _ (getD_mem (by omega))
   ·exact hs.2 _ (getD_mem (by omega))⟩,by simp;omega⟩
theorem shl_P {a:Nat} (h:a<3):∃ P:Nat,1≤P∧P≤16∧binA prog .shl 3 (.int .i64 1) (.int .i64 (2+(a:Int)))=some (.int .i64 (P:Int)):=by
 refine ⟨2 ^ (2+a),Nat.one_le_two_pow,?_,?_⟩
 ·have:=Nat.pow_le_pow_right (n:=2) (by decide) (show 2+a≤4 by omega);omega
 ·rw [shl_one (w:=2+(a:Int)) (by omega) (by omega),show (2+(a:Int)).toNat=2+a by omega]
  congr 2
theorem and_le {a b:Nat}:a &&& b≤b:=Nat.and_le_right
end Go.AM
namespace Go.AM
open Go.Proofs.Tryz
attribute [-go_sem] put_ne put_same
attribute [local go_sem ↓] put_if
def RowC (b:Nat) (H:Heap) (v:AVal) (l:List Rw3):Prop:=∃ (id ver:Nat) (rest:List Rw3),v=.slice (some ⟨id,ver,0⟩) l.length (l.length+rest.length)∧H[id]?=some (rowE encR 28 (l++rest) ver)∧b≤id∧0<l.length
theorem RowC.one {b:Nat} {H:Heap} {v:AVal} {l:List Rw3} (x:RowC b H v l):One v:=by obtain ⟨_,_,_,rfl,_⟩:=x;exact ⟨rfl,rfl,rfl⟩
theorem RowC.rows {b:Nat} {H:Heap} {v:AVal} {l:List Rw3} (x:RowC b H v l) (hl:l.length<2 ^ 60):Rows encR H v l:=by
 obtain ⟨id,ver,rest,rfl,g,-,h0⟩:=x
 refine ⟨hl,.inr (.inr ⟨⟨id,ver,0⟩,l.length+rest.length,flat encR (l++rest),28,true,false,rfl,g,?_,?_,by omega⟩)⟩
 ·show ((flat encR (l++rest)).drop 0).take (l.length * 3)=flat encR l
  rw [List.drop_zero,flat_app,List.take_left' (by rw [flat_len];rfl)]
 ·show 0+l.length * 3≤(flat encR (l++rest)).length
  rw [flat_len,List.length_append]
  show 0+l.length * 3≤(l.length+rest.length) * 3
  omega
theorem RowC.setBox {b a u:Nat} {H:Heap} {v:AVal} {l:List Rw3} {k:ABlk} {c:List AVal} {t:TypeId} {ro:Bool} (x:RowC b H v l) (hg:H[a]?=some ⟨.cells c t false ro,u⟩):RowC b (H.set a k) v l:=by
 obtain ⟨id,ver,rest,rfl,g,hid,h0⟩:=x
 have hne:a ≠ id:=by
  rintro rfl
  rw [g] at hg
  simp [rowE] at hg
 exact ⟨id,ver,rest,rfl,by rw [List.getElem?_set_ne hne];exact g,hid,h0⟩
theorem RowC.keep {b:Nat} {H H':Heap} {v:AVal} {l:List Rw3} (x:RowC b H v l) (k:KeepO encI 3 H H'):RowC b H' v l:=by
 obtain ⟨id,ver,rest,rfl,g,hid,h0⟩:=x
 exact ⟨id,ver,rest,rfl,k id _ g fun l' ver' q=>by simp [rowE] at q,hid,h0⟩
theorem RowC.snoc {base b:Nat} {A:Heap} {v:AVal} {l:List Rw3} {r:Rw3} (x:RowC b A v l) (hb:base≤b) (hl:l.length≤1000) :
  ∃ v' H,appendA prog base (A++[rowE encR 28 [r] 0]) 23 v (.slice (some ⟨A.length,0,0⟩) 1 1)=some (v',H)∧RowC b H v' (l++[r])∧A.length≤H.length∧(∀ G,G.length≤b→Ext G A→Ext G H)∧KeepO encR 28 A H:=by
 obtain ⟨id,ver,rest,rfl,g,hid,h0⟩:=x
 obtain ⟨B,eB⟩:∃ B,B=A++[rowE encR 28 [r] 0]:=⟨_,rfl⟩
 have xB:Ext A B:=by rw [eB];exact .app .refl
 have lB:B.length=A.length+1:=by rw [eB];simp
 have gB:=xB.get g
 have lid:=lt_of_get gB
 have hx:Rows encR B (.slice (some ⟨A.length,0,0⟩) 1 1) [r]:=Rows.own (by rw [eB];exact get_eq rfl) rfl (by simp)
 have hx1:=hx.lenA
 have hx2:=hx.firstN
 rw [← eB]
 have hkeep:∀ l' ver',KeepO encR 28 A (B.set id (rowE encR 28 l' ver')):=fun l' ver' i y gi hy=>by
  have hne:id ≠ i:=by
   rintro rfl
   rw [g] at gi
   exact hy _ _ (Option.some.inj gi).symm
  rw [List.getElem?_set_ne hne]
  exact xB.get gi
 have hext:∀ {k:ABlk} G,G.length≤b→Ext G A→Ext G (B.set id k):=fun G hG e=>(e.trans xB).set (by omega)
 cases rest with
 | nil =>
  rw [List.append_nil] at gB
  refine ⟨.slice (some ⟨id,ver+1,0⟩) (l.length+1) (l.length+1),B.set id (rowE encR 28 (l++[r]) (ver+1)),?_,⟨id,ver+1,[],by simp,by rw [List.getElem?_set_self lid,List.append_nil],hid,by simp⟩,by rw [List.length_set];omega,hext,hkeep _ _⟩
  simp only [appendA,Fc.el23]
  have e1:lenA 3 (.slice (some ⟨A.length,0,0⟩) 1 1)=some 1:=hx1
  have e2:firstN B 3 1 (.slice (some ⟨A.length,0,0⟩) 1 1)=some (flat encR [r]):=hx2
  simp only [e1,e2,flat_scalar encR_sc,if_true,List.length_nil,Nat.add_zero]
  rw [if_neg (by omega),gB]
  simp only [rowE,flat_len]
  rw [if_pos (by refine ⟨?_,?_,?_,?_,?_,h0,.inl (by omega)⟩<;>first|trivial|rfl|omega)]
  rw [List.take_of_length_le (by rw [flat_len];exact Nat.le_refl _),← flat_app]
 | cons y rest =>
  refine ⟨.slice (some ⟨id,ver,0⟩) (l.length+1) (l.length+(y :: rest).length),B.set id (rowE encR 28 (l++r :: rest) ver),?_,⟨id,ver,rest,by simp;omega,by rw [List.getElem?_set_self lid];simp,hid,by simp⟩,by rw [List.length_set];omega,hext,hkeep _ _⟩
  simp only [appendA,Fc.el23]
  have e1:lenA 3 (.slice (some ⟨A.length,0,0⟩) 1 1)=some 1:=hx1
  have e2:firstN B 3 1 (.slice (some ⟨A.length,0,0⟩) 1 1)=some (flat encR [r]):=hx2
  simp only [e1,e2,flat_scalar encR_sc,if_true]
  rw [if_pos (by simp)]
  have hs:=stQ_rowE (E:=encR) (e:=28) (l:=l++y :: rest) (i:=l.length) (base:=base) (id:=id) (ver:=ver) (x:=r) (K:=fun b=>B.set id b) (by simp) (encR_sc r) (by omega)
  have e3:(l++y :: rest).set l.length r=l++r :: rest:=by rw [List.set_append_right _ _ (Nat.le_refl _),Nat.sub_self];rfl
  rw [e3] at hs
  have e4:(ARef.mk id ver 0).add (l.length * 3)=⟨id,ver,l.length * encR.z⟩:=by simp [ARef.add];rfl
  have e5:flat encR [r]=encR.cells r:=by simp [flat]
  rw [e4,e5,store_eq,gB,hs]
def rwsN (n:Nat):List Rw3:=(0,1,1) :: (List.range n).map fun (i:Nat)=>(4 * (i:Int),2,0)
theorem rwsN_succ {n:Nat}:rwsN (n+1)=rwsN n++[(4 * (n:Int),2,0)]:=by unfold rwsN;rw [List.range_succ,List.map_append];rfl
theorem rwsN_len {n:Nat}:(rwsN n).length=n+1:=by simp [rwsN]
set_option maxRecDepth 100000 in
theorem sml_chk {n:Nat} (hn:n<14):(decide (chkL ⟨4,upto n,[]⟩=0)=decide (0<n∧n<8))∧(decide (chkL ⟨3,[1,2,3,4],rwsN n⟩=0)=decide (n<12))∧(decide (chkL ⟨(n:Int),[0],[]⟩=0)=decide (0<n∧n<9)):=by
 have:∀ n:Fin 14,(decide (chkL ⟨4,upto n,[]⟩=0)=decide (0<(n:Nat)∧(n:Nat)<8))∧(decide (chkL ⟨3,[1,2,3,4],rwsN n⟩=0)=decide ((n:Nat)<12))∧(decide (chkL ⟨((n:Nat):Int),[0],[]⟩=0)=decide (0<(n:Nat)∧(n:Nat)<9)):=by decide +kernel
 exact this ⟨n,hn⟩
end Go.AM
