/-
  A part of an element that is a struct of its own; equality of shades.
-/
import Derived.Test.YtcemgempgbjbeaaGreatU18
set_option linter.unusedSimpArgs false
set_option linter.unusedVariables false
namespace Go.AM
open Go.Proofs.Tryz
attribute [-go_sem] put_ne put_same
attribute [local go_sem ↓] put_if
theorem Rows.aggAt {α:Type} {E:Enc α} {P:Program} {h:Heap} {v:AVal} {l:List α} {t:TypeId} (hR:Rows E h v l) {n:Nat} (ht:tyA P t=some (true,n)) {i o:Nat} {x:α} (hx:l[i]?=some x) (ho:o+n≤E.z):loadP P h t (elAdr v E.z i o)=some (.agg (((E.cells x).drop o).take n)):=by
 have hi:=(List.getElem?_eq_some_iff.1 hx).1
 rcases hR.2 with ⟨rfl,rfl⟩|⟨rfl,rfl⟩|⟨r,k,c,e,row,ro,rfl,h2,h3,h4,_⟩
 ·simp at hi
 ·simp at hi
 ·have hle:i * E.z+E.z≤l.length * E.z:=by rw [← Nat.succ_mul];exact Nat.mul_le_mul_right _ hi
  have hg:=flat_get E hx
  rw [← h3,List.drop_take,List.take_take,List.drop_drop,Nat.min_eq_left (by omega)] at hg
  simp only [loadP,elAdr,loadA,ht,loadN,cellsAt,ARef.add,h2,if_true]
  rw [if_pos (show r.off+(i * E.z+o)+n≤c.length by omega)]
  simp only [Option.bind_some,mkVal,if_true]
  rw [← hg,List.drop_take,List.take_take,List.drop_drop,Nat.min_eq_left (by omega),Nat.add_assoc]
abbrev shV (s:Shd):AVal:=.agg [.int .i64 s.1,.int .i64 s.2.1,.int .i64 s.2.2]
theorem sh_eq {a b:Shd}:binA prog .eql 128 (shV a) (shV b)=some (.bool (decide (a=b))):=by
 obtain ⟨a1,a2,a3⟩:=a
 obtain ⟨b1,b2,b3⟩:=b
 have h1:prog.eqGuardType prog.depth 128=false:=by kernel_rfl
 have h2:prog.underlying 128=some (.array 3 3):=by kernel_rfl
 have h3:prog.underlying 3=some (.int .i64):=by kernel_rfl
 have h4:List.range 3=[0,1,2]:=rfl
 simp only [binA,eqDepth,eqT,h1,h2,h3,h4,Fc.ty3,partQ,List.foldr,Prod.mk.injEq]
 by_cases c1:a1=b1<;>by_cases c2:a2=b2<;>by_cases c3:a3=b3<;>simp [c1,c2,c3]
end Go.AM
namespace Go.AM
open Go.Proofs.Tryz
attribute [-go_sem] put_ne put_same
attribute [local go_sem ↓] put_if
def shIn (m:Int) (s:Shd):Prop:=(0≤s.1∧s.1≤m)∧(0≤s.2.1∧s.2.1≤m)∧0≤s.2.2∧s.2.2≤m
structure TOk (T:EyT):Prop where
 nE:1≤T.E.length∧T.E.length≤6
 nL:1≤T.L.length∧T.L.length≤4
 nP:T.P.length≤9
 E:∀ x ∈ T.E,shIn 4 x.1∧1≤x.2∧x.2≤400
 L:∀ x ∈ T.L,shIn 3 x
 P:∀ x ∈ T.P,shIn 20 x
theorem elAdr_arr {α:Type} {E:Enc α} {P:Program} {h:Heap} {v:AVal} {l:List α} {t:TypeId} {i o n z:Nat} {q:Bool} {j:Int} (hR:Rows E h v l) (hi:i<l.length) (ha:arT P t=some (n,q,z)) (h0:0≤j) (h1:j<n):indexAddrA P t (elAdr v E.z i o) (.int .i64 j)=some (elAdr v E.z i (o+j.toNat * z)):=by
 rcases hR.2 with ⟨rfl,rfl⟩|⟨rfl,rfl⟩|⟨r,k,c,e,row,ro,rfl,h2,h3,h4,_⟩
 ·simp at hi
 ·simp at hi
 ·simp [indexAddrA,ha,elAdr,h0,h1,ARef.add,Nat.add_assoc]
theorem mul_in {t:TypeId} {a b:Int} (h:0≤a * b∧a * b≤1000000):binA prog .mul t (.int .i64 a) (.int .i64 b)=some (.int .i64 (a * b)):=by
 rw [bin_mul];congr 2
 exact wrap64 (by omega) (by omega)
theorem mul_bd {a b m n:Int} (ha:0≤a∧a≤m) (hb:0≤b∧b≤n):0≤a * b∧a * b≤m * n:=⟨Int.mul_nonneg ha.1 hb.1,Int.mul_le_mul ha.2 hb.2 hb.1 (by omega)⟩
theorem absd_bd {a b:Int} (ha:0≤a∧a≤20) (hb:0≤b∧b≤20):0≤absd a b∧absd a b≤20:=by unfold absd;omega
theorem ix3 {x y z:AVal}:indexA prog 128 (.agg [x,y,z]) (.int .i64 0)=some x∧indexA prog 128 (.agg [x,y,z]) (.int .i64 1)=some y∧indexA prog 128 (.agg [x,y,z]) (.int .i64 2)=some z:=by
 refine ⟨?_,?_,?_⟩<;>simp [indexA,Fc.ar128,partQ]
set_option maxHeartbeats 2000000 in
theorem run_sees {base:Nat} {h:Heap} {id:Nat} {T:EyT} {i k:Nat} {a b:Shd} (hD:EDk h id T) (ok:TOk T) (hi:i<T.E.length) (hk:k<T.L.length) (ha:shIn 20 a) (hb:shIn 20 b) :
  callL prog raw base (.fn 285 [] []) [.ptr (some ⟨id,0,0⟩),.agg [.int .i64 (i:Int),.int .i64 (k:Int)],shV a,shV b] h=some (.int .i64 (seeD T.E[i].1 T.L[k] a b),h):=by
 obtain ⟨ev,lv,pv,g,hE,hL,hP⟩:=hD
 obtain ⟨w,ew⟩:∃ w,w=T.E[i].1:=⟨_,rfl⟩
 obtain ⟨f,ef⟩:∃ f,f=T.E[i].2:=⟨_,rfl⟩
 obtain ⟨l,el⟩:∃ l,l=T.L[k]:=⟨_,rfl⟩
 have hw:shIn 4 w:=by rw [ew];exact (ok.E _ (List.getElem_mem hi)).1
 have hl:shIn 3 l:=by rw [el];exact ok.L _ (List.getElem_mem hk)
 have xE:T.E[i]?=some (w,f):=by rw [List.getElem?_eq_getElem hi,ew,ef]
 have xL:T.L[k]?=some l:=by rw [List.getElem?_eq_getElem hk,el]
 rw [← ew,← el]
 obtain ⟨w0,w1,w2⟩:=w
 obtain ⟨l0,l1,l2⟩:=l
 obtain ⟨a0,a1,a2⟩:=a
 obtain ⟨b0,b1,b2⟩:=b
 obtain ⟨hw0,hw1,hw2⟩:=hw
 obtain ⟨hl0,hl1,hl2⟩:=hl
 obtain ⟨ha0,ha1,ha2⟩:=ha
 obtain ⟨hb0,hb1,hb2⟩:=hb
 simp only at hw0 hw1 hw2 hl0 hl1 hl2 ha0 ha1 ha2 hb0 hb1 hb2
 have oE:=hE.one
 have oL:=hL.one
 have aE:=hE.addr (P:=prog) (i:=(i:Int)) Fc.el23 Fc.ar23 (by omega) (by omega)
 rw [Int.toNat_natCast] at aE
 have fE:fieldAddrA prog 131 (elAdr ev encE.z i 0) 0=some (elAdr ev encE.z i 0):=elAdr_field (P:=prog) (o:=0) (off:=0) (q:=true) (n:=3) hE hi (by kernel_rfl) (by decide)
 obtain ⟨G,eG⟩:∃ G,G=h++[(⟨.cells [.int .i64 (i:Int),.int .i64 (k:Int)] 376 false false,0⟩:ABlk)]++[⟨.cells [.int .i64 a0,.int .i64 a1,.int .i64 a2] 128 false false,0⟩]++[⟨.cells [.int .i64 b0,.int .i64 b1,.int .i64 b2] 128 false false,0⟩]:=⟨_,rfl⟩
 have x0:Ext h G:=by rw [eG];exact .app (.app (.app .refl))
 have g0:G[h.length]?=some ⟨.cells [.int .i64 (i:Int),.int .i64 (k:Int)] 376 false false,0⟩:=by rw [eG];exact get_app (get_app (get_eq rfl))
 have ga:G[h.length+1]?=some ⟨.cells [.int .i64 a0,.int .i64 a1,.int .i64 a2] 128 false false,0⟩:=by rw [eG];exact get_app (get_eq (by simp))
 have gb:G[h.length+1+1]?=some ⟨.cells [.int .i64 b0,.int .i64 b1,.int .i64 b2] 128 false false,0⟩:=by rw [eG];exact get_eq (by simp)
 unfold eyB at g
 have gi:=x0.get g
 obtain ⟨G1,eG1⟩:∃ G1,G1=G++[rowB [b0-a0] 0]:=⟨_,rfl⟩
 obtain ⟨G2,eG2⟩:∃ G2,G2=G1++[rowB [b1-a1] 0]:=⟨_,rfl⟩
 obtain ⟨G3,eG3⟩:∃ G3,G3=G2++[rowB [b2-a2] 0]:=⟨_,rfl⟩
 have x1:Ext G G1:=by rw [eG1];exact .app .refl
 have x2:Ext G1 G2:=by rw [eG2];exact .app .refl
 have x3:Ext G2 G3:=by rw [eG3];exact .app .refl
 have gi1:=x1.get gi
 have gi2:=x2.get gi1
 have gi3:=x3.get gi2
 have g01:=x1.get g0
 have g02:=x2.get g01
 have g03:=x3.get g02
 have ga1:=x1.get ga
 have ga2:=x2.get ga1
 have gb1:=x1.get gb
 have gb2:=x2.get gb1
 have lE:loadP prog G 128 (elAdr ev encE.z i 0)=some (.agg [.int .i64 w0,.int .i64 w1,.int .i64 w2]):=(hE.ext x0).aggAt Fc.ty128 xE (by decide)
 have aL:=hL.addr (P:=prog) (i:=(k:Int)) Fc.el24 Fc.ar24 (by omega) (by omega)
 rw [Int.toNat_natCast] at aL
 have aL0:indexAddrA prog 133 (elAdr lv enc3.z k 0) (.int .i64 0)=some (elAdr lv enc3.z k 0):=elAdr_arr (j:=0) hL hk Fc.ar133 (by omega) (by omega)
 have aL1:indexAddrA prog 133 (elAdr lv enc3.z k 0) (.int .i64 1)=some (elAdr lv enc3.z k 1):=elAdr_arr (j:=1) hL hk Fc.ar133 (by omega) (by omega)
 have aL2:indexAddrA prog 133 (elAdr lv enc3.z k 0) (.int .i64 2)=some (elAdr lv enc3.z k 2):=elAdr_arr (j:=2) hL hk Fc.ar133 (by omega) (by omega)
 have lL0:loadP prog G1 3 (elAdr lv enc3.z k 0)=some (.int .i64 l0):=(hL.ext (x0.trans x1)).cell Fc.ty3 xL rfl
 have lL1:loadP prog G2 3 (elAdr lv enc3.z k 1)=some (.int .i64 l1):=(hL.ext ((x0.trans x1).trans x2)).cell Fc.ty3 xL rfl
 have lL2:loadP prog G3 3 (elAdr lv enc3.z k 2)=some (.int .i64 l2):=(hL.ext (((x0.trans x1).trans x2).trans x3)).cell Fc.ty3 xL rfl
 have d0:=absd_bd ha0 hb0
 have d1:=absd_bd ha1 hb1
 have d2:=absd_bd ha2 hb2
 have e0:=mul_bd d0 hw0
 have e1:=mul_bd d1 hw1
 have e2:=mul_bd d2 hw2
 have f0:=mul_bd e0 hl0
 have f1:=mul_bd e1 hl1
 have f2:=mul_bd e2 hl2
 have m0:=fun t=>mul_in (t:=t) (a:=absd a0 b0) (b:=w0) (by omega)
 have m1:=fun t=>mul_in (t:=t) (a:=absd a1 b1) (b:=w1) (by omega)
 have m2:=fun t=>mul_in (t:=t) (a:=absd a2 b2) (b:=w2) (by omega)
 have n0:=fun t=>mul_in (t:=t) (a:=absd a0 b0 * w0) (b:=l0) (by omega)
 have n1:=fun t=>mul_in (t:=t) (a:=absd a1 b1 * w1) (b:=l1) (by omega)
 have n2:=fun t=>mul_in (t:=t) (a:=absd a2 b2 * w2) (b:=l2) (by omega)
 have gr:∀ {base:Nat} {H K:Heap} {x y:Int},K=H++[rowB [y-x] 0]→(-1000≤y-x∧y-x≤1000)→callL prog raw base (.fn 294 [] []) [.int .i64 (x-y),.slice (some ⟨H.length,0,0⟩) 1 1] K=some (.int .i64 (absd x y),K):=fun {base H K x y} e hh=>by
  subst e
  exact run_egr (base:=base) (n:=x-y) (slice_row (A:=H) (n:=H.length) (k:=1) (l:=[y-x]) rfl rfl ⟨by simp,fun z hz=>by rw [List.mem_singleton] at hz;omega⟩)
 have r0:=fun base=>gr (base:=base) eG1 (by omega)
 have r1:=fun base=>gr (base:=base) eG2 (by omega)
 have r2:=fun base=>gr (base:=base) eG3 (by omega)
 have t0:((0:Int)<3)=True:=eq_true (by omega)
 have t1:((1:Int)<3)=True:=eq_true (by omega)
 have t2:((2:Int)<3)=True:=eq_true (by omega)
 have t3:((3:Int)<3)=False:=eq_false (by omega)
 unfold seeD
 simp only
 refine callL_run func285 rfl rfl ?_
 have hsp:=@Nat.succ_ne_zero;repeat' (first|simp (disch:=first|exact dqb|fail) only [go_sem,↓reduceIte,hsp,← eG,g0,gi,aE,fE,lE]|refine WP_drw ?_|refine cnd_intro (fun hsp=>?_) fun hsp=>?_)
 rw [WP_loop1]
 have hsp:=@Nat.succ_ne_zero;repeat' (first|simp (disch:=first|exact dqb|fail) only [go_sem,↓reduceIte,hsp,g0,gi,ga,gb,t0,ix3.1,ix3.2.1,ix3.2.2,bsrI,← eG1,r0,g01,gi1,aL,aL0,lL0,m0,n0]|refine WP_drw ?_|refine cnd_intro (fun hsp=>?_) fun hsp=>?_)
 rw [WP_loop1]
 have hsp:=@Nat.succ_ne_zero;repeat' (first|simp (disch:=first|exact dqb|fail) only [go_sem,↓reduceIte,hsp,g01,gi1,ga1,gb1,t1,ix3.1,ix3.2.1,ix3.2.2,bsrI,← eG2,r1,g02,gi2,aL,aL1,lL1,m1,n1]|refine WP_drw ?_|refine cnd_intro (fun hsp=>?_) fun hsp=>?_)
 rw [WP_loop1]
 have hsp:=@Nat.succ_ne_zero;repeat' (first|simp (disch:=first|exact dqb|fail) only [go_sem,↓reduceIte,hsp,g02,gi2,ga2,gb2,t2,ix3.1,ix3.2.1,ix3.2.2,bsrI,← eG3,r2,g03,gi3,aL,aL2,lL2,m2,n2]|refine WP_drw ?_|refine cnd_intro (fun hsp=>?_) fun hsp=>?_)
 rw [WP_loop1]
 have hsp:=@Nat.succ_ne_zero;repeat' (first|simp (disch:=first|exact dqb|fail) only [go_sem,↓reduceIte,hsp,t3]|refine WP_drw ?_|refine cnd_intro (fun hsp=>?_) fun hsp=>?_)
 exact fI (by rw [Int.zero_add]) (x0.trans ((x1.trans x2).trans x3))
end Go.AM
namespace Go.AM
open Go.Proofs.Tryz
attribute [-go_sem] put_ne put_same
attribute [local go_sem ↓] put_if
theorem idxF_YE {base:Nat} {h:Heap} {v g:AVal} {l:List ((Shd × Int))} (p:(Shd × Int)→Bool) (hR:Rows encE h v l) (hg:∀ base x,x ∈ l→callL prog raw base g [.agg (encE.cells x)] h=some (.bool (p x),h)) :
  callL prog raw base (.fn 281 [] []) [v,g] h=some (.int .i64 (idx p l),h):=by
 have hb:l.length<2 ^ 60:=hR.1
 refine callL_run func281 rfl rfl ?_
 have hsp:=@Nat.succ_ne_zero;repeat' (first|simp (disch:=first|exact dqb|fail) only [go_sem,↓reduceIte,hsp,hR.len Fc.el23]|refine WP_drw ?_|refine cnd_intro (fun hsp=>?_) fun hsp=>?_)
 refine WP_loop (fun σ=>∃ n:Nat,σ.fr 8=.int .i64 (n:Int)∧σ.fr 0=v∧σ.fr 1=g∧σ.fr 7=.int .i64 (l.length:Int)∧σ.h=h∧n≤l.length∧(∀ x ∈ l.take n,p x=false)) (fun σ=>match σ.fr 8 with|.int _ x=>(((l.length:Nat):Int)-x).toNat|_=>0) ?_ ?_
 ·refine ⟨0,?_,?_,?_,?_,?_,by omega,?_⟩
  iterate 5 focus (first|rfl|(simp (disch:=first|exact dqb|fail) only [go_sem,↓reduceIte,Int.natCast_zero];first|done|rfl))
  intro x hx;simp at hx
 ·rintro ⟨fr,hp⟩ ⟨n,r8,r0,r1,r7,rh,hi,hP⟩
  dsimp only at r8 r0 r1 r7 rh hi hP
  subst rh
  by_cases hn:n<l.length
  ·have hlt:((n:Int)<(l.length:Int))=True:=eq_true (by omega)
   have hx:l[n]?=some l[n]:=List.getElem?_eq_getElem hn
   have had:=hR.addr (i:=(n:Int)) Fc.el23 Fc.ar23 (by omega) (by omega)
   rw [Int.toNat_natCast] at had
   have hld:=hR.load Fc.ty131 hx
   have hc:=fun base=>hg base l[n] (List.getElem_mem hn)
   cases hp:p l[n] with
   | true =>
    rw [hp] at hc
    have hsp:=@Nat.succ_ne_zero;repeat' (first|simp (disch:=first|exact dqb|fail) only [go_sem,↓reduceIte,hsp,r8,r0,r1,r7,hlt,had,hld,hc]|refine WP_drw ?_|refine cnd_intro (fun hsp=>?_) fun hsp=>?_)
    rw [idx_hit p hn hP hp]
    all_goals (first|refine fI ?_|refine fB ?_|refine fII ?_ ?_|refine fBI ?_ ?_|refine fIII ?_ ?_ ?_|refine fIIB ?_ ?_ ?_|skip);all_goals (try dsimp only);all_goals (try with_reducible rfl);all_goals (try omega)
   | false =>
    rw [hp] at hc
    have hsp:=@Nat.succ_ne_zero;repeat' (first|simp (disch:=first|exact dqb|fail) only [go_sem,↓reduceIte,hsp,r8,r0,r1,r7,hlt,had,hld,hc]|refine WP_drw ?_|refine cnd_intro (fun hsp=>?_) fun hsp=>?_)
    exact ⟨⟨n+1,by simp,by omega,take_next p hn hP hp⟩,by omega⟩
  ·have hlt:((n:Int)<(l.length:Int))=False:=eq_false (by omega)
   obtain rfl:n=l.length:=by omega
   have hsp:=@Nat.succ_ne_zero;repeat' (first|simp (disch:=first|exact dqb|fail) only [go_sem,↓reduceIte,hsp,r8,r0,r1,r7,hlt]|refine WP_drw ?_|refine cnd_intro (fun hsp=>?_) fun hsp=>?_)
   rw [idx_miss p hP]
   all_goals (first|refine fI ?_|refine fB ?_|refine fII ?_ ?_|refine fBI ?_ ?_|refine fIII ?_ ?_ ?_|refine fIIB ?_ ?_ ?_|skip);all_goals (try dsimp only);all_goals (try with_reducible rfl);all_goals (try omega)
theorem anyF_YE {base:Nat} {h:Heap} {v g:AVal} {l:List ((Shd × Int))} (p:(Shd × Int)→Bool) (hR:Rows encE h v l) (hg:∀ base x,x ∈ l→callL prog raw base g [.agg (encE.cells x)] h=some (.bool (p x),h)) :
  callL prog raw base (.fn 245 [] []) [v,g] h=some (.bool (l.any p),h):=by
 have hi:=fun base=>idxF_YE (base:=base) p hR hg
 have h0:=idx_any p l
 refine callL_run func245 rfl rfl ?_
 have hsp:=@Nat.succ_ne_zero;repeat' (first|simp (disch:=first|exact dqb|fail) only [go_sem,↓reduceIte,hsp,hi]|refine WP_drw ?_|refine cnd_intro (fun hsp=>?_) fun hsp=>?_)
 refine fB ?_
 by_cases h1:l.any p=true
 ·rw [h1];simpa using h0.2 h1
 ·have h2:¬ 0≤idx p l:=fun h=>h1 (h0.1 h)
  simp only [Bool.not_eq_true] at h1
  rw [h1];simpa using h2
theorem not_YE {base id:Nat} {h:Heap} {g:AVal} {x:(Shd × Int)} {b:Bool} (hid:h[id]?=some ⟨.cells [g] 306 false false,0⟩) (hg:∀ base T,callL prog raw base g [.agg (encE.cells x)] (h++T)=some (.bool b,h++T)) :
  callL prog raw base (.fn 246 [] [.ptr (some ⟨id,0,0⟩)]) [.agg (encE.cells x)] h=some (.bool (!b),h):=by
 have hgi:=lt_of_get hid
 simp only [encE] at hg ⊢
 refine callL_run func246 rfl rfl ?_
 have hsp:=@Nat.succ_ne_zero;repeat' (first|simp (disch:=first|exact dqb|fail) only [go_sem,↓reduceIte,hsp,hid,hg]|refine WP_drw ?_|refine cnd_intro (fun hsp=>?_) fun hsp=>?_)
 exact fB rfl
theorem every_YE {base:Nat} {h:Heap} {v g:AVal} {l:List ((Shd × Int))} (p:(Shd × Int)→Bool) (hR:Rows encE h v l) (hg:∀ base T x,x ∈ l→callL prog raw base g [.agg (encE.cells x)] (h++T)=some (.bool (p x),h++T)) (h1:One g) :
  callL prog raw base (.fn 189 [] []) [v,g] h=some (.bool (l.all p),h):=by
 have hc:=fun base=>anyF_YE (base:=base) (fun x=>!p x) hR.app (fun base x hx=>not_YE (x:=x) (get_eq rfl) (fun base T=>by have:=hg base ([⟨.cells [g] 306 false false,0⟩]++T) x hx;rwa [← List.append_assoc] at this))
 refine callL_run func189 rfl rfl ?_
 have hsp:=@Nat.succ_ne_zero;repeat' (first|simp (disch:=first|exact dqb|fail) only [go_sem,↓reduceIte,hsp,hc]|refine WP_drw ?_|refine cnd_intro (fun hsp=>?_) fun hsp=>?_)
 refine fB ?_
 rw [List.any_eq_not_all_not]
 simp
theorem idxF_YL {base:Nat} {h:Heap} {v g:AVal} {l:List (Shd)} (p:Shd→Bool) (hR:Rows enc3 h v l) (hg:∀ base x,x ∈ l→callL prog raw base g [.agg (enc3.cells x)] h=some (.bool (p x),h)) :
  callL prog raw base (.fn 282 [] []) [v,g] h=some (.int .i64 (idx p l),h):=by
 have hb:l.length<2 ^ 60:=hR.1
 refine callL_run func282 rfl rfl ?_
 have hsp:=@Nat.succ_ne_zero;repeat' (first|simp (disch:=first|exact dqb|fail) only [go_sem,↓reduceIte,hsp,hR.len Fc.el24]|refine WP_drw ?_|refine cnd_intro (fun hsp=>?_) fun hsp=>?_)
 refine WP_loop (fun σ=>∃ n:Nat,σ.fr 8=.int .i64 (n:Int)∧σ.fr 0=v∧σ.fr 1=g∧σ.fr 7=.int .i64 (l.length:Int)∧σ.h=h∧n≤l.length∧(∀ x ∈ l.take n,p x=false)) (fun σ=>match σ.fr 8 with|.int _ x=>(((l.length:Nat):Int)-x).toNat|_=>0) ?_ ?_
 ·refine ⟨0,?_,?_,?_,?_,?_,by omega,?_⟩
  iterate 5 focus (first|rfl|(simp (disch:=first|exact dqb|fail) only [go_sem,↓reduceIte,Int.natCast_zero];first|done|rfl))
  intro x hx;simp at hx
 ·rintro ⟨fr,hp⟩ ⟨n,r8,r0,r1,r7,rh,hi,hP⟩
  dsimp only at r8 r0 r1 r7 rh hi hP
  subst rh
  by_cases hn:n<l.length
  ·have hlt:((n:Int)<(l.length:Int))=True:=eq_true (by omega)
   have hx:l[n]?=some l[n]:=List.getElem?_eq_getElem hn
   have had:=hR.addr (i:=(n:Int)) Fc.el24 Fc.ar24 (by omega) (by omega)
   rw [Int.toNat_natCast] at had
   have hld:=hR.load Fc.ty133 hx
   have hc:=fun base=>hg base l[n] (List.getElem_mem hn)
   cases hp:p l[n] with
   | true =>
    rw [hp] at hc
    have hsp:=@Nat.succ_ne_zero;repeat' (first|simp (disch:=first|exact dqb|fail) only [go_sem,↓reduceIte,hsp,r8,r0,r1,r7,hlt,had,hld,hc]|refine WP_drw ?_|refine cnd_intro (fun hsp=>?_) fun hsp=>?_)
    rw [idx_hit p hn hP hp]
    all_goals (first|refine fI ?_|refine fB ?_|refine fII ?_ ?_|refine fBI ?_ ?_|refine fIII ?_ ?_ ?_|refine fIIB ?_ ?_ ?_|skip);all_goals (try dsimp only);all_goals (try with_reducible rfl);all_goals (try omega)
   | false =>
    rw [hp] at hc
    have hsp:=@Nat.succ_ne_zero;repeat' (first|simp (disch:=first|exact dqb|fail) only [go_sem,↓reduceIte,hsp,r8,r0,r1,r7,hlt,had,hld,hc]|refine WP_drw ?_|refine cnd_intro (fun hsp=>?_) fun hsp=>?_)
    exact ⟨⟨n+1,by simp,by omega,take_next p hn hP hp⟩,by omega⟩
  ·have hlt:((n:Int)<(l.length:Int))=False:=eq_false (by omega)
   obtain rfl:n=l.length:=by omega
   have hsp:=@Nat.succ_ne_zero;repeat' (first|simp (disch:=first|exact dqb|fail) only [go_sem,↓reduceIte,hsp,r8,r0,r1,r7,hlt]|refine WP_drw ?_|refine cnd_intro (fun hsp=>?_) fun hsp=>?_)
   rw [idx_miss p hP]
   all_goals (first|refine fI ?_|refine fB ?_|refine fII ?_ ?_|refine fBI ?_ ?_|refine fIII ?_ ?_ ?_|refine fIIB ?_ ?_ ?_|skip);all_goals (try dsimp only);all_goals (try with_reducible rfl);all_goals (try omega)
theorem anyF_YL {base:Nat} {h:Heap} {v g:AVal} {l:List (Shd)} (p:Shd→Bool) (hR:Rows enc3 h v l) (hg:∀ base x,x ∈ l→callL prog raw base g [.agg (enc3.cells x)] h=some (.bool (p x),h)) :
  callL prog raw base (.fn 248 [] []) [v,g] h=some (.bool (l.any p),h):=by
 have hi:=fun base=>idxF_YL (base:=base) p hR hg
 have h0:=idx_any p l
 refine callL_run func248 rfl rfl ?_
 have hsp:=@Nat.succ_ne_zero;repeat' (first|simp (disch:=first|exact dqb|fail) only [go_sem,↓reduceIte,hsp,hi]|refine WP_drw ?_|refine cnd_intro (fun hsp=>?_) fun hsp=>?_)
 refine fB ?_
 by_cases h1:l.any p=true
 ·rw [h1];simpa using h0.2 h1
 ·have h2:¬ 0≤idx p l:=fun h=>h1 (h0.1 h)
  simp only [Bool.not_eq_true] at h1
  rw [h1];simpa using h2
theorem not_YL {base id:Nat} {h:Heap} {g:AVal} {x:Shd} {b:Bool} (hid:h[id]?=some ⟨.cells [g] 308 false false,0⟩) (hg:∀ base T,callL prog raw base g [.agg (enc3.cells x)] (h++T)=some (.bool b,h++T)) :
  callL prog raw base (.fn 249 [] [.ptr (some ⟨id,0,0⟩)]) [.agg (enc3.cells x)] h=some (.bool (!b),h):=by
 have hgi:=lt_of_get hid
 simp only [enc3] at hg ⊢
 refine callL_run func249 rfl rfl ?_
 have hsp:=@Nat.succ_ne_zero;repeat' (first|simp (disch:=first|exact dqb|fail) only [go_sem,↓reduceIte,hsp,hid,hg]|refine WP_drw ?_|refine cnd_intro (fun hsp=>?_) fun hsp=>?_)
 exact fB rfl
theorem every_YL {base:Nat} {h:Heap} {v g:AVal} {l:List (Shd)} (p:Shd→Bool) (hR:Rows enc3 h v l) (hg:∀ base T x,x ∈ l→callL prog raw base g [.agg (enc3.cells x)] (h++T)=some (.bool (p x),h++T)) (h1:One g) :
  callL prog raw base (.fn 192 [] []) [v,g] h=some (.bool (l.all p),h):=by
 have hc:=fun base=>anyF_YL (base:=base) (fun x=>!p x) hR.app (fun base x hx=>not_YL (x:=x) (get_eq rfl) (fun base T=>by have:=hg base ([⟨.cells [g] 308 false false,0⟩]++T) x hx;rwa [← List.append_assoc] at this))
 refine callL_run func192 rfl rfl ?_
 have hsp:=@Nat.succ_ne_zero;repeat' (first|simp (disch:=first|exact dqb|fail) only [go_sem,↓reduceIte,hsp,hc]|refine WP_drw ?_|refine cnd_intro (fun hsp=>?_) fun hsp=>?_)
 refine fB ?_
 rw [List.any_eq_not_all_not]
 simp
theorem idxF_YS {base:Nat} {h:Heap} {v g:AVal} {l:List (Shd)} (p:Shd→Bool) (hR:Rows enc3 h v l) (hg:∀ base x,x ∈ l→callL prog raw base g [.agg (enc3.cells x)] h=some (.bool (p x),h)) :
  callL prog raw base (.fn 283 [] []) [v,g] h=some (.int .i64 (idx p l),h):=by
 have hb:l.length<2 ^ 60:=hR.1
 refine callL_run func283 rfl rfl ?_
 have hsp:=@Nat.succ_ne_zero;repeat' (first|simp (disch:=first|exact dqb|fail) only [go_sem,↓reduceIte,hsp,hR.len Fc.el25]|refine WP_drw ?_|refine cnd_intro (fun hsp=>?_) fun hsp=>?_)
 refine WP_loop (fun σ=>∃ n:Nat,σ.fr 8=.int .i64 (n:Int)∧σ.fr 0=v∧σ.fr 1=g∧σ.fr 7=.int .i64 (l.length:Int)∧σ.h=h∧n≤l.length∧(∀ x ∈ l.take n,p x=false)) (fun σ=>match σ.fr 8 with|.int _ x=>(((l.length:Nat):Int)-x).toNat|_=>0) ?_ ?_
 ·refine ⟨0,?_,?_,?_,?_,?_,by omega,?_⟩
  iterate 5 focus (first|rfl|(simp (disch:=first|exact dqb|fail) only [go_sem,↓reduceIte,Int.natCast_zero];first|done|rfl))
  intro x hx;simp at hx
 ·rintro ⟨fr,hp⟩ ⟨n,r8,r0,r1,r7,rh,hi,hP⟩
  dsimp only at r8 r0 r1 r7 rh hi hP
  subst rh
  by_cases hn:n<l.length
  ·have hlt:((n:Int)<(l.length:Int))=True:=eq_true (by omega)
   have hx:l[n]?=some l[n]:=List.getElem?_eq_getElem hn
   have had:=hR.addr (i:=(n:Int)) Fc.el25 Fc.ar25 (by omega) (by omega)
   rw [Int.toNat_natCast] at had
   have hld:=hR.load Fc.ty128 hx
   have hc:=fun base=>hg base l[n] (List.getElem_mem hn)
   cases hp:p l[n] with
   | true =>
    rw [hp] at hc
    have hsp:=@Nat.succ_ne_zero;repeat' (first|simp (disch:=first|exact dqb|fail) only [go_sem,↓reduceIte,hsp,r8,r0,r1,r7,hlt,had,hld,hc]|refine WP_drw ?_|refine cnd_intro (fun hsp=>?_) fun hsp=>?_)
    rw [idx_hit p hn hP hp]
    all_goals (first|refine fI ?_|refine fB ?_|refine fII ?_ ?_|refine fBI ?_ ?_|refine fIII ?_ ?_ ?_|refine fIIB ?_ ?_ ?_|skip);all_goals (try dsimp only);all_goals (try with_reducible rfl);all_goals (try omega)
   | false =>
    rw [hp] at hc
    have hsp:=@Nat.succ_ne_zero;repeat' (first|simp (disch:=first|exact dqb|fail) only [go_sem,↓reduceIte,hsp,r8,r0,r1,r7,hlt,had,hld,hc]|refine WP_drw ?_|refine cnd_intro (fun hsp=>?_) fun hsp=>?_)
    exact ⟨⟨n+1,by simp,by omega,take_next p hn hP hp⟩,by omega⟩
  ·have hlt:((n:Int)<(l.length:Int))=False:=eq_false (by omega)
   obtain rfl:n=l.length:=by omega
   have hsp:=@Nat.succ_ne_zero;repeat' (first|simp (disch:=first|exact dqb|fail) only [go_sem,↓reduceIte,hsp,r8,r0,r1,r7,hlt]|refine WP_drw ?_|refine cnd_intro (fun hsp=>?_) fun hsp=>?_)
   rw [idx_miss p hP]
   all_goals (first|refine fI ?_|refine fB ?_|refine fII ?_ ?_|refine fBI ?_ ?_|refine fIII ?_ ?_ ?_|refine fIIB ?_ ?_ ?_|skip);all_goals (try dsimp only);all_goals (try with_reducible rfl);all_goals (try omega)
theorem anyF_YS {base:Nat} {h:Heap} {v g:AVal} {l:List (Shd)} (p:Shd→Bool) (hR:Rows enc3 h v l) (hg:∀ base x,x ∈ l→callL prog raw base g [.agg (enc3.cells x)] h=some (.bool (p x),h)) :
  callL prog raw base (.fn 250 [] []) [v,g] h=some (.bool (l.any p),h):=by
 have hi:=fun base=>idxF_YS (base:=base) p hR hg
 have h0:=idx_any p l
 refine callL_run func250 rfl rfl ?_
 have hsp:=@Nat.succ_ne_zero;repeat' (first|simp (disch:=first|exact dqb|fail) only [go_sem,↓reduceIte,hsp,hi]|refine WP_drw ?_|refine cnd_intro (fun hsp=>?_) fun hsp=>?_)
 refine fB ?_
 by_cases h1:l.any p=true
 ·rw [h1];simpa using h0.2 h1
 ·have h2:¬ 0≤idx p l:=fun h=>h1 (h0.1 h)
  simp only [Bool.not_eq_true] at h1
  rw [h1];simpa using h2
theorem not_YS {base id:Nat} {h:Heap} {g:AVal} {x:Shd} {b:Bool} (hid:h[id]?=some ⟨.cells [g] 310 false false,0⟩) (hg:∀ base T,callL prog raw base g [.agg (enc3.cells x)] (h++T)=some (.bool b,h++T)) :
  callL prog raw base (.fn 251 [] [.ptr (some ⟨id,0,0⟩)]) [.agg (enc3.cells x)] h=some (.bool (!b),h):=by
 have hgi:=lt_of_get hid
 simp only [enc3] at hg ⊢
 refine callL_run func251 rfl rfl ?_
 have hsp:=@Nat.succ_ne_zero;repeat' (first|simp (disch:=first|exact dqb|fail) only [go_sem,↓reduceIte,hsp,hid,hg]|refine WP_drw ?_|refine cnd_intro (fun hsp=>?_) fun hsp=>?_)
 exact fB rfl
theorem every_YS {base:Nat} {h:Heap} {v g:AVal} {l:List (Shd)} (p:Shd→Bool) (hR:Rows enc3 h v l) (hg:∀ base T x,x ∈ l→callL prog raw base g [.agg (enc3.cells x)] (h++T)=some (.bool (p x),h++T)) (h1:One g) :
  callL prog raw base (.fn 194 [] []) [v,g] h=some (.bool (l.all p),h):=by
 have hc:=fun base=>anyF_YS (base:=base) (fun x=>!p x) hR.app (fun base x hx=>not_YS (x:=x) (get_eq rfl) (fun base T=>by have:=hg base ([⟨.cells [g] 310 false false,0⟩]++T) x hx;rwa [← List.append_assoc] at this))
 refine callL_run func194 rfl rfl ?_
 have hsp:=@Nat.succ_ne_zero;repeat' (first|simp (disch:=first|exact dqb|fail) only [go_sem,↓reduceIte,hsp,hc]|refine WP_drw ?_|refine cnd_intro (fun hsp=>?_) fun hsp=>?_)
 refine fB ?_
 rw [List.any_eq_not_all_not]
 simp
theorem not_YI {base id:Nat} {h:Heap} {g:AVal} {x:Int} {b:Bool} (hid:h[id]?=some ⟨.cells [g] 132 false false,0⟩) (hg:∀ base T,callL prog raw base g [.int .i64 x] (h++T)=some (.bool b,h++T)) :
  callL prog raw base (.fn 196 [] [.ptr (some ⟨id,0,0⟩)]) [.int .i64 x] h=some (.bool (!b),h):=by
 have hgi:=lt_of_get hid
 have hg0:=fun base=>hg base []
 simp only [List.append_nil] at hg0
 refine callL_run func196 rfl rfl ?_
 have hsp:=@Nat.succ_ne_zero;repeat' (first|simp (disch:=first|exact dqb|fail) only [go_sem,↓reduceIte,hsp,hid,hg0]|refine WP_drw ?_|refine cnd_intro (fun hsp=>?_) fun hsp=>?_)
 exact fB rfl
theorem every_YI {base:Nat} {h:Heap} {v g:AVal} {l:List (Int)} (p:Int→Bool) (hR:Ints h v l) (hg:∀ base T x,x ∈ l→callL prog raw base g [.int .i64 x] (h++T)=some (.bool (p x),h++T)) (h1:One g) :
  callL prog raw base (.fn 126 [] []) [v,g] h=some (.bool (l.all p),h):=by
 have hc:=fun base=>anyF_I (base:=base) (fun x=>!p x) hR.app (fun base x hx=>not_YI (x:=x) (get_eq rfl) (fun base T=>by have:=hg base ([⟨.cells [g] 132 false false,0⟩]++T) x hx;rwa [← List.append_assoc] at this))
 refine callL_run func126 rfl rfl ?_
 have hsp:=@Nat.succ_ne_zero;repeat' (first|simp (disch:=first|exact dqb|fail) only [go_sem,↓reduceIte,hsp,hc]|refine WP_drw ?_|refine cnd_intro (fun hsp=>?_) fun hsp=>?_)
 refine fB ?_
 rw [List.any_eq_not_all_not]
 simp
end Go.AM
namespace Go.AM
open Go.Proofs.Tryz
attribute [-go_sem] put_ne put_same
attribute [local go_sem ↓] put_if
theorem run_yin {base:Nat} {h:Heap} {n lo hi:Int}:callL prog raw base (.fn 188 [] []) [.int .i64 n,.int .i64 lo,.int .i64 hi] h=some (.bool (decide (lo≤n∧n≤hi)),h):=by
 refine callL_run func188 rfl rfl ?_
 by_cases h1:lo≤n
 ·have t1:(n ≥ lo)=True:=eq_true h1
  have hsp:=@Nat.succ_ne_zero;repeat' (first|simp (disch:=first|exact dqb|fail) only [go_sem,↓reduceIte,hsp,t1]|refine WP_drw ?_|refine cnd_intro (fun hsp=>?_) fun hsp=>?_)
  refine fB ?_
  simp [h1]
 ·have t1:(n ≥ lo)=False:=eq_false h1
  have hsp:=@Nat.succ_ne_zero;repeat' (first|simp (disch:=first|exact dqb|fail) only [go_sem,↓reduceIte,hsp,t1]|refine WP_drw ?_|refine cnd_intro (fun hsp=>?_) fun hsp=>?_)
  refine fB ?_
  simp [h1]
attribute [go_sem] run_yin
theorem run_wit1 {base id:Nat} {h:Heap} {m n:Int} (hg:h[id]?=some ⟨.cells [.int .i64 m] 3 false false,0⟩):callL prog raw base (.fn 247 [] [.ptr (some ⟨id,0,0⟩)]) [.int .i64 n] h=some (.bool (decide (0≤n∧n≤m)),h):=by
 refine callL_run func247 rfl rfl ?_
 have hsp:=@Nat.succ_ne_zero;repeat' (first|simp (disch:=first|exact dqb|fail) only [go_sem,↓reduceIte,hsp,hg]|refine WP_drw ?_|refine cnd_intro (fun hsp=>?_) fun hsp=>?_)
 exact fB rfl
theorem run_within {base:Nat} {h:Heap} {m:Int} {s:Shd} (hs:shIn m s) (hm:0≤m∧m≤1000):callL prog raw base (.fn 191 [] []) [shV s,.int .i64 m] h=some (.bool true,h):=by
 obtain ⟨s0,s1,s2⟩:=s
 obtain ⟨h0,h1,h2⟩:=hs
 simp only at h0 h1 h2
 obtain ⟨G,eG⟩:∃ G,G=h++[⟨.cells [.int .i64 s0,.int .i64 s1,.int .i64 s2] 128 false false,0⟩]++[⟨.cells [.int .i64 m] 3 false false,0⟩]:=⟨_,rfl⟩
 have xG:Ext h G:=by rw [eG];exact .app (.app .refl)
 have g0:G[h.length]?=some ⟨.cells [.int .i64 s0,.int .i64 s1,.int .i64 s2] 128 false false,0⟩:=by rw [eG];exact get_app (get_eq rfl)
 have g1:G[h.length+1]?=some ⟨.cells [.int .i64 m] 3 false false,0⟩:=by rw [eG];exact get_eq (by simp)
 have hR:Rows encI G (.slice (some ⟨h.length,0,0⟩) 3 3) [s0,s1,s2]:=⟨by simp,.inr (.inr ⟨⟨h.length,0,0⟩,3,_,_,_,_,rfl,g0,rfl,by simp [encI],by simp⟩)⟩
 have hI:=hR.ints (fun x hx=>by
  simp only [List.mem_cons,List.not_mem_nil,or_false] at hx
  omega)
 have ev:=fun base=>every_YI (base:=base) (g:=.fn 247 [] [.ptr (some ⟨h.length+1,0,0⟩)]) (fun n=>decide (0≤n∧n≤m)) hI (fun base T x _=>run_wit1 (get_app g1)) ⟨rfl,rfl,rfl⟩
 rw [show ([s0,s1,s2].all fun n=>decide (0≤n∧n≤m))=true by simp;omega] at ev
 have sl:sliceA prog 128 (.ptr (some ⟨h.length,0,0⟩)) none none none=some (.slice (some ⟨h.length,0,0⟩) 3 3):=by
  simp [sliceA,Fc.ar128,optB,ARef.add]
 refine callL_run func191 rfl rfl ?_
 have hsp:=@Nat.succ_ne_zero;repeat' (first|simp (disch:=first|exact dqb|fail) only [go_sem,↓reduceIte,hsp,← eG,g0,sl,ev]|refine WP_drw ?_|refine cnd_intro (fun hsp=>?_) fun hsp=>?_)
 exact fB rfl xG
theorem run_yright {base:Nat} {h:Heap} {s:Shd} (hs:shIn 20 s):callL prog raw base (.fn 195 [] []) [.agg (enc3.cells s)] h=some (.bool true,h):=by
 have w:=fun base=>run_within (base:=base) (h:=h++[⟨.cells [.int .i64 s.1,.int .i64 s.2.1,.int .i64 s.2.2] 128 false false,0⟩]) hs (by omega)
 simp only [enc3]
 refine callL_run func195 rfl rfl ?_
 have hsp:=@Nat.succ_ne_zero;repeat' (first|simp (disch:=first|exact dqb|fail) only [go_sem,↓reduceIte,hsp,w]|refine WP_drw ?_|refine cnd_intro (fun hsp=>?_) fun hsp=>?_)
 exact fB rfl
theorem run_yck2 {base:Nat} {h:Heap} {s:Shd} (hs:shIn 3 s):callL prog raw base (.fn 193 [] []) [.agg (enc3.cells s)] h=some (.bool true,h):=by
 have w:=fun base=>run_within (base:=base) (h:=h++[⟨.cells [.int .i64 s.1,.int .i64 s.2.1,.int .i64 s.2.2] 133 false false,0⟩]) hs (by omega)
 simp only [enc3]
 refine callL_run func193 rfl rfl ?_
 have hsp:=@Nat.succ_ne_zero;repeat' (first|simp (disch:=first|exact dqb|fail) only [go_sem,↓reduceIte,hsp,w]|refine WP_drw ?_|refine cnd_intro (fun hsp=>?_) fun hsp=>?_)
 exact fB rfl
theorem run_yck1 {base:Nat} {h:Heap} {x:Shd × Int} (hs:shIn 4 x.1) (hf:1≤x.2∧x.2≤400):callL prog raw base (.fn 190 [] []) [.agg (encE.cells x)] h=some (.bool true,h):=by
 have w:=fun base=>run_within (base:=base) (h:=h++[⟨.cells [.int .i64 x.1.1,.int .i64 x.1.2.1,.int .i64 x.1.2.2,.int .i64 x.2] 131 false false,0⟩]) hs (by omega)
 have t:=decide_eq_true hf
 simp only [encE]
 refine callL_run func190 rfl rfl ?_
 have hsp:=@Nat.succ_ne_zero;repeat' (first|simp (disch:=first|exact dqb|fail) only [go_sem,↓reduceIte,hsp,w,t]|refine WP_drw ?_|refine cnd_intro (fun hsp=>?_) fun hsp=>?_)
 exact fB rfl
def TblAt (h:Heap) (v:AVal) (T:EyT):Prop:=∃ ev lv pv,v=.agg [ev,lv,pv]∧Rows encE h ev T.E∧Rows enc3 h lv T.L∧Rows enc3 h pv T.P
theorem TblAt.ext {h H:Heap} {v:AVal} {T:EyT} (x:TblAt h v T) (e:Ext h H):TblAt H v T:=by
 obtain ⟨ev,lv,pv,rfl,a,b,c⟩:=x
 exact ⟨ev,lv,pv,rfl,a.ext e,b.ext e,c.ext e⟩
abbrev tbB (ev lv pv:AVal):ABlk:=⟨.cells [ev,lv,pv] 27 false false,0⟩
theorem all_true {α:Type} {l:List α}:(l.all fun _=>true)=true:=by simp
set_option maxHeartbeats 1000000 in
theorem run_yCheck {base:Nat} {h:Heap} {v:AVal} {T:EyT} (hT:TblAt h v T) (ok:TOk T):callL prog raw base (.fn 124 [] []) [v] h=some (.int .i64 0,h):=by
 obtain ⟨ev,lv,pv,rfl,hE,hL,hP⟩:=hT
 have o1:=hE.one
 have o2:=hL.one
 have o3:=hP.one
 obtain ⟨G,eG⟩:∃ G,G=h++[tbB ev lv pv]:=⟨_,rfl⟩
 have x0:Ext h G:=by rw [eG];exact .app .refl
 have g0:G[h.length]?=some (tbB ev lv pv):=by rw [eG];exact get_eq rfl
 have iE:=hE.ext x0
 have iL:=hL.ext x0
 have iP:=hP.ext x0
 have n1:=iE.len (P:=prog) Fc.el23
 have n2:=iL.len (P:=prog) Fc.el24
 have n3:=iP.len (P:=prog) Fc.el25
 have b1:=ok.nE
 have b2:=ok.nL
 have b3:=ok.nP
 have t1:decide (1≤(T.E.length:Int)∧(T.E.length:Int)≤6)=true:=decide_eq_true (by omega)
 have t2:decide (1≤(T.L.length:Int)∧(T.L.length:Int)≤4)=true:=decide_eq_true (by omega)
 have t3:((T.P.length:Int) > 9)=False:=eq_false (by omega)
 have e1:=fun base=>every_YE (base:=base) (g:=.fn 190 [] []) (fun _=>true) iE (fun base Z x hx=>run_yck1 (ok.E x hx).1 (ok.E x hx).2) ⟨rfl,rfl,rfl⟩
 have e2:=fun base=>every_YL (base:=base) (g:=.fn 193 [] []) (fun _=>true) iL (fun base Z x hx=>run_yck2 (ok.L x hx)) ⟨rfl,rfl,rfl⟩
 have e3:=fun base=>every_YS (base:=base) (g:=.fn 195 [] []) (fun _=>true) iP (fun base Z x hx=>run_yright (ok.P x hx)) ⟨rfl,rfl,rfl⟩
 rw [all_true] at e1 e2 e3
 refine callL_run func124 rfl rfl ?_
 have hsp:=@Nat.succ_ne_zero;repeat' (first|simp (disch:=first|exact dqb|fail) only [go_sem,↓reduceIte,hsp,← eG,g0,n1,n2,n3,t1,t2,t3,e1,e2,e3]|refine WP_drw ?_|refine cnd_intro (fun hsp=>?_) fun hsp=>?_)
 exact fI rfl x0
theorem run_yopened {base:Nat} {h:Heap} {v:AVal} {T:EyT} (hb:base≤h.length) (hT:TblAt h v T) (ok:TOk T) :
  Ret prog raw base (.fn 45 [] []) [v] h (fun w H=>Ext h H∧∃ id,w=.tuple [.ptr (some ⟨id,0,0⟩),.int .i64 0]∧EDk H id T∧h.length≤id):=by
 obtain ⟨ev,lv,pv,rfl,hE,hL,hP⟩:=hT
 have o1:=hE.one
 have o2:=hL.one
 have o3:=hP.one
 have hc:=fun base=>run_yCheck (base:=base) (h:=h++[tbB ev lv pv]) (v:=.agg [ev,lv,pv]) (T:=T) ⟨ev,lv,pv,rfl,hE.app,hL.app,hP.app⟩ ok
 refine ret_raw func45 rfl (by kernel_rfl) ?_
 have hsp:=@Nat.succ_ne_zero;repeat' (first|simp (disch:=first|exact dqb|fail) only [go_sem,↓reduceIte,hsp,hc]|refine WP_drw ?_|refine cnd_intro (fun hsp=>?_) fun hsp=>?_)
 exact ⟨.app (.app .refl),h.length+1,rfl,⟨ev,lv,pv,get_eq (by simp),hE.app.app,hL.app.app,hP.app.app⟩,by omega⟩
end Go.AM
namespace Go.AM
open Go.Proofs.Tryz
attribute [-go_sem] put_ne put_same
attribute [local go_sem ↓] put_if
abbrev pE (id:Nat):ABlk:=⟨.cells [.ptr (some ⟨id,0,0⟩)] 137 false false,0⟩
theorem run_looks {base id:Nat} {h:Heap}:Ret prog raw base (.fn 284 [] []) [.ptr (some ⟨id,0,0⟩)] h (fun w H=>w=.fn 293 [] [.ptr (some ⟨h.length,0,0⟩)]∧H=h++[pE id]):=by
 refine ret_raw func284 rfl (by kernel_rfl) ?_
 have hsp:=@Nat.succ_ne_zero;repeat' (first|simp (disch:=first|exact dqb|fail) only [go_sem,↓reduceIte,hsp]|refine WP_drw ?_|refine cnd_intro (fun hsp=>?_) fun hsp=>?_)
def lkN (T:EyT):Nat:=T.E.length * T.L.length
def lkV (T:EyT) (j:Nat):AVal:=.agg [.int .i64 ((j / T.L.length:Nat):Int),.int .i64 ((j % T.L.length:Nat):Int)]
def XY (T:EyT) (j:Nat) (a:List AVal) (_:Heap):Prop:=a=[lkV T j]
def prY (x:ABlk):Prop:=∀ (l:List (Int × Int)) ver,x ≠ rowE encS 376 l ver
theorem lk_div {n i k:Nat} (h:k<n):(i * n+k) / n=i∧(i * n+k) % n=k:=by
 refine ⟨?_,?_⟩
 ·rw [Nat.mul_comm,Nat.mul_add_div (by omega),Nat.div_eq_of_lt h];rfl
 ·rw [Nat.mul_comm,Nat.mul_add_mod,Nat.mod_eq_of_lt h]
set_option maxHeartbeats 1000000 in
theorem looks_yields {T:EyT} {base Lx db id:Nat} {I:Nat→Heap→Prop} (ok:TOk T) (hI:∀ j H,I j H→EDk H id T∧H[db]?=some (pE id)) :
  YieldsX prog raw base Lx (.fn 293 [] [.ptr (some ⟨db,0,0⟩)]) (lkN T) (XY T) prY I:=by
 intro J S H0 hL hJI happ hcb h0
 have nE:=ok.nE
 have nL:=ok.nL
 have hat:∀ j H,J j H→∃ ev lv pv,H[id]?=some (eyB ev lv pv)∧Rows encE H ev T.E∧Rows enc3 H lv T.L∧H[db]?=some (pE id):=fun j H q=>by
  obtain ⟨⟨ev,lv,pv,g,a,b,_⟩,c⟩:=hI j H (hJI j H q).1
  exact ⟨ev,lv,pv,g,a,b,c⟩
 suffices hh:Ret prog raw base (.fn 293 [] [.ptr (some ⟨db,0,0⟩)]) [.yld Lx] H0 (fun w H'=>J (lkN T) H' ∨ S H') by
  obtain ⟨w,H',e,k⟩:=hh
  exact ⟨w,H',e,k⟩
 obtain ⟨ev,lv,pv,g,hE,_,gb⟩:=hat 0 H0 h0
 have o1:=hE.one
 have n1:=hE.len (P:=prog) Fc.el23
 refine ret_raw func293 rfl (by kernel_rfl) ?_
 have hsp:=@Nat.succ_ne_zero;repeat' (first|simp (disch:=first|exact dqb|fail) only [go_sem,↓reduceIte,hsp,gb,g,n1]|refine WP_drw ?_|refine cnd_intro (fun hsp=>?_) fun hsp=>?_)
 refine WP_count [(3,4),(11,30)] 0 T.E.length (Nat.zero_le _) (fun _ i fr h'=>fr 11=.int .i64 (i:Int)∧J (i * T.L.length) h') ?_ ?_ ?_
 ·exact ⟨by (simp (disch:=first|exact dqb|fail) only [go_sem,↓reduceIte,Int.natCast_zero];first|done|rfl),by rw [Nat.zero_mul];exact h0⟩
 ·rintro i fr H hi0 hi hA ⟨r11,hj⟩
  have p0:=hA 0 rfl
  have p1:=hA 1 rfl
  have p10:=hA 10 rfl
  try simp (disch:=first|exact dqb|fail) only [go_sem,↓reduceIte] at p0 p1 p10
  have hlt:((i:Int)<(T.E.length:Int))=True:=eq_true (by omega)
  obtain ⟨ev2,lv2,pv2,g2,_,hL2,gb2⟩:=hat _ H hj
  have o2:=hL2.one
  have n2:=hL2.len (P:=prog) Fc.el24
  have hsp:=@Nat.succ_ne_zero;repeat' (first|simp (disch:=first|exact dqb|fail) only [go_sem,↓reduceIte,hsp,r11,p0,p1,p10,hlt,gb2,g2,n2]|refine WP_drw ?_|refine cnd_intro (fun hsp=>?_) fun hsp=>?_)
  refine WP_count [(4,4),(20,29)] 0 T.L.length (Nat.zero_le _) (fun _ k fr h'=>fr 20=.int .i64 (k:Int)∧J (i * T.L.length+k) h') ?_ ?_ ?_
  ·exact ⟨by (simp (disch:=first|exact dqb|fail) only [go_sem,↓reduceIte,Int.natCast_zero];first|done|rfl),hj⟩
  ·rintro k fr2 H2 hk0 hk hB ⟨r20,hj2⟩
   have d0:=hB 0 rfl
   have d1:=hB 1 rfl
   have d3:=hB 3 rfl
   have d10:=hB 10 rfl
   have d11:=hB 11 rfl
   have d19:=hB 19 rfl
   try simp (disch:=first|exact dqb|fail) only [go_sem,↓reduceIte,p0,p1,p10] at d0 d1 d3 d10 d11 d19
   have hlt2:((k:Int)<(T.L.length:Int))=True:=eq_true (by omega)
   have hv:lkV T (i * T.L.length+k)=.agg [.int .i64 (i:Int),.int .i64 (k:Int)]:=by
    unfold lkV
    rw [(lk_div hk).1,(lk_div hk).2]
   have hjn:i * T.L.length+k<lkN T:=by
    unfold lkN
    have:(i+1) * T.L.length≤T.E.length * T.L.length:=Nat.mul_le_mul_right _ (by omega)
    rw [Nat.succ_mul] at this
    omega
   obtain ⟨b,H',e,_,_,y1,y2⟩:=hcb _ [lkV T (i * T.L.length+k)] H2 hjn rfl hj2
   rw [hv] at e
   cases b with
   | true =>
    have hsp:=@Nat.succ_ne_zero;repeat' (first|simp (disch:=first|exact dqb|fail) only [go_sem,↓reduceIte,hsp,d0,d1,d3,d10,d11,d19,r11,r20,hlt2,e]|refine WP_drw ?_|refine cnd_intro (fun hsp=>?_) fun hsp=>?_)
    exact ⟨agq,by omega,y1 rfl⟩
   | false =>
    have hsp:=@Nat.succ_ne_zero;repeat' (first|simp (disch:=first|exact dqb|fail) only [go_sem,↓reduceIte,hsp,d0,d1,d3,d10,d11,d19,r11,r20,hlt2,e]|refine WP_drw ?_|refine cnd_intro (fun hsp=>?_) fun hsp=>?_)
    exact .inr (y2 rfl)
  ·rintro fr2 H2 hB ⟨r20,hj2⟩
   have d0:=hB 0 rfl
   have d1:=hB 1 rfl
   have d3:=hB 3 rfl
   have d10:=hB 10 rfl
   have d11:=hB 11 rfl
   have d19:=hB 19 rfl
   try simp (disch:=first|exact dqb|fail) only [go_sem,↓reduceIte,p0,p1,p10] at d0 d1 d3 d10 d11 d19
   have hlt2:((T.L.length:Int)<(T.L.length:Int))=False:=eq_false (by omega)
   have hsp:=@Nat.succ_ne_zero;repeat' (first|simp (disch:=first|exact dqb|fail) only [go_sem,↓reduceIte,hsp,d0,d1,d3,d10,d11,d19,r11,r20,hlt2]|refine WP_drw ?_|refine cnd_intro (fun hsp=>?_) fun hsp=>?_)
   exact ⟨agq,by omega,by rw [Nat.succ_mul];exact hj2⟩
 ·rintro fr H hA ⟨r11,hj⟩
  have p0:=hA 0 rfl
  have p1:=hA 1 rfl
  have p10:=hA 10 rfl
  try simp (disch:=first|exact dqb|fail) only [go_sem,↓reduceIte] at p0 p1 p10
  have hlt:((T.E.length:Int)<(T.E.length:Int))=False:=eq_false (by omega)
  have hsp:=@Nat.succ_ne_zero;repeat' (first|simp (disch:=first|exact dqb|fail) only [go_sem,↓reduceIte,hsp,r11,p0,p1,p10,hlt]|refine WP_drw ?_|refine cnd_intro (fun hsp=>?_) fun hsp=>?_)
  exact .inl hj
end Go.AM
namespace Go.AM
open Go.Proofs.Tryz
attribute [-go_sem] put_ne put_same
attribute [local go_sem ↓] put_if
def telB (T:EyT) (a b:Shd) (j:Nat):Bool:=decide ((T.E.getD (j / T.L.length) ((0,0,0),0)).2≤seeD (T.E.getD (j / T.L.length) ((0,0,0),0)).1 (T.L.getD (j % T.L.length) (0,0,0)) a b)
def apJ (T:EyT) (a b:Shd) (n:Nat):List (Int × Int):=((List.range n).filter (telB T a b)).map fun j=>(((j / T.L.length:Nat):Int),((j % T.L.length:Nat):Int))
def apL (T:EyT) (a b:Shd):List (Int × Int):=if a=b then [] else apJ T a b (lkN T)
theorem apJ_succ {T:EyT} {a b:Shd} {n:Nat}:apJ T a b (n+1)=apJ T a b n++if telB T a b n=true then [(((n / T.L.length:Nat):Int),((n % T.L.length:Nat):Int))] else []:=by
 unfold apJ
 rw [List.range_succ,List.filter_append,List.map_append]
 cases h:telB T a b n<;>simp [h]
theorem apJ_len {T:EyT} {a b:Shd} {n:Nat}:(apJ T a b n).length≤n:=by
 unfold apJ
 rw [List.length_map]
 exact Nat.le_trans (List.length_filter_le _ _) (by simp)
theorem lk_at {T:EyT} {j:Nat} (hj:j<lkN T) (hL:1≤T.L.length):j / T.L.length<T.E.length∧j % T.L.length<T.L.length:=by
 unfold lkN at hj
 exact ⟨Nat.div_lt_of_lt_mul (by rw [Nat.mul_comm];exact hj),Nat.mod_lt _ hL⟩
abbrev lkB (v:AVal):ABlk:=⟨.cells [v] 345 false false,0⟩
abbrev shB (s:Shd):ABlk:=⟨.cells [.int .i64 s.1,.int .i64 s.2.1,.int .i64 s.2.2] 128 false false,0⟩
theorem sh_eq' {a b:Shd}:binA prog .eql 128 (.agg [.int .i64 a.1,.int .i64 a.2.1,.int .i64 a.2.2]) (.agg [.int .i64 b.1,.int .i64 b.2.1,.int .i64 b.2.2])=some (.bool (decide (a=b))):=sh_eq
set_option maxHeartbeats 1000000 in
theorem run_apart {base:Nat} {h:Heap} {id:Nat} {T:EyT} {a b:Shd} (hb:base≤h.length) (hD:EDk h id T) (ok:TOk T) (ha:shIn 20 a) (hs:shIn 20 b) :
  Ret prog raw base (.fn 252 [] []) [.ptr (some ⟨id,0,0⟩),shV a,shV b] h (fun w H=>Ext h H∧Own encS 376 h.length H w (apL T a b)):=by
 have nE:=ok.nE
 have nL:=ok.nL
 obtain ⟨G,eG⟩:∃ G,G=h++[pE id]++[shB a]++[shB b]:=⟨_,rfl⟩
 have xG:Ext h G:=by rw [eG];exact .app (.app (.app .refl))
 have lG:G.length=h.length+3:=by rw [eG];simp
 have g0:G[h.length]?=some (pE id):=by rw [eG];exact get_app (get_app (get_eq rfl))
 have g1:G[h.length+1]?=some (shB a):=by rw [eG];exact get_app (get_eq (by simp))
 have g2:G[h.length+2]?=some (shB b):=by rw [eG];exact get_eq (by simp)
 unfold apL
 by_cases hab:a=b
 ·rw [if_pos hab]
  have t1:decide (a=b)=true:=decide_eq_true hab
  refine ret_raw func252 rfl (by kernel_rfl) ?_
  have hsp:=@Nat.succ_ne_zero;repeat' (first|simp (disch:=first|exact dqb|fail) only [go_sem,↓reduceIte,hsp,← eG,g0,g1,g2,sh_eq',t1]|refine WP_drw ?_|refine cnd_intro (fun hsp=>?_) fun hsp=>?_)
  exact ⟨xG,Own.nil⟩
 ·rw [if_neg hab]
  have t1:decide (a=b)=false:=decide_eq_false hab
  obtain ⟨G2,eG2⟩:∃ G2,G2=G++[lkB (.slice none 0 0)]:=⟨_,rfl⟩
  have xG2:Ext G G2:=by rw [eG2];exact .app .refl
  have lG2:G2.length=h.length+4:=by rw [eG2];simp [lG]
  have k3:G2[G.length]?=some (lkB (.slice none 0 0)):=by rw [eG2];exact get_eq rfl
  have k0:=xG2.get g0
  obtain ⟨w3,G3,e3,rfl,eG3⟩:=run_looks (base:=base) (id:=id) (h:=G2)
  have x3:Ext G2 G3:=by rw [eG3];exact .app .refl
  have l3:G3.length=h.length+5:=by rw [eG3];simp [lG2]
  have gdb:G3[G2.length]?=some (pE id):=by rw [eG3];exact get_eq rfl
  refine ret_raw func252 rfl (by kernel_rfl) ?_
  have hsp:=@Nat.succ_ne_zero;repeat' (first|simp (disch:=first|exact dqb|fail) only [go_sem,↓reduceIte,hsp,← eG,g0,g1,g2,sh_eq',t1,← eG2,k0,e3]|refine WP_drw ?_|refine cnd_intro (fun hsp=>?_) fun hsp=>?_)
  refine WP_rangeX (by simp (disch:=first|exact dqb|fail) only [go_sem,↓reduceIte]) (N:=lkN T) (X:=XY T) (pr:=prY) (fun j H=>G3.length+1≤H.length∧Ext G H∧H[G2.length]?=some (pE id)∧∃ v,H[G.length]?=some (lkB v)∧Own encS 376 (G3.length+1) H v (apJ T a b j)) (fun _ _=>False)
   (looks_yields (id:=id) (db:=G2.length) ok (fun j H q=>⟨hD.ext (xG.trans q.2.1),q.2.2.1⟩)) ?_ ?_ ?_ ?_ ?_ ?_ ?_ ?_
  ·rintro j a H rfl;rfl
  ·rintro j H T ⟨a,b,c,v,d,e⟩
   exact ⟨by simp;omega,b.trans (.app .refl),get_app c,v,get_app d,e.ext (.app .refl)⟩
  ·rintro j H B ⟨a,b,c,v,d,e⟩
   exact ⟨by simpa using a,b.set (by omega),by rw [List.getElem?_set_ne (by omega)];exact c,v,by rw [List.getElem?_set_ne (by omega)];exact d,e.set (by omega)⟩
  ·intro e H B q;exact q
  ·exact ⟨by simp,(xG2.trans x3).trans (.app .refl),get_app gdb,.slice none 0 0,(x3.trans (.app .refl)).get k3,Own.nil⟩
  ·rintro j _ H B1 B2 hj rfl ⟨hI1,hI2,hI3,u,hI4,hI5⟩ hHl hB
   obtain ⟨hi,hk⟩:=lk_at hj nL.1
   obtain ⟨i,ei⟩:∃ i,i=j / T.L.length:=⟨_,rfl⟩
   obtain ⟨k,ek⟩:∃ k,k=j % T.L.length:=⟨_,rfl⟩
   rw [← ei] at hi
   rw [← ek] at hk
   have hv:lkV T j=.agg [.int .i64 (i:Int),.int .i64 (k:Int)]:=by unfold lkV;rw [← ei,← ek]
   rw [hv]
   have lH:=lt_of_get hB
   obtain ⟨K0,eK0⟩:∃ K0,K0=H.set G3.length B2:=⟨_,rfl⟩
   have lK0:K0.length=H.length:=by rw [eK0,List.length_set]
   obtain ⟨K,eK⟩:∃ K,K=K0++[(⟨.cells [.int .i64 (i:Int),.int .i64 (k:Int)] 376 false false,0⟩:ABlk)]:=⟨_,rfl⟩
   have x0K:Ext K0 K:=by rw [eK];exact .app .refl
   have lK:K.length=H.length+1:=by rw [eK];simp [lK0]
   have xK:Ext G K:=by rw [eK,eK0];exact (hI2.set (by omega)).app
   have gKB:K[G3.length]?=some B2:=x0K.get (by rw [eK0,List.getElem?_set_self (by omega)])
   have gKl:K[H.length]?=some ⟨.cells [.int .i64 (i:Int),.int .i64 (k:Int)] 376 false false,0⟩:=by rw [eK];exact get_eq lK0.symm
   have gK0:=xK.get g0
   have gK1:=xK.get g1
   have gK2:=xK.get g2
   have gKd:K[G2.length]?=some (pE id):=x0K.get (by rw [eK0,List.getElem?_set_ne (by omega)];exact hI3)
   have gKo:K[G.length]?=some (lkB u):=x0K.get (by rw [eK0,List.getElem?_set_ne (by omega)];exact hI4)
   have oK:Own encS 376 (G3.length+1) K u (apJ T a b j):=by
    have:Own encS 376 (G3.length+1) K0 u (apJ T a b j):=by rw [eK0];exact hI5.set (by omega)
    exact this.ext x0K
   have hDK:=hD.ext (xG.trans xK)
   have sc:=fun base=>run_sees (base:=base) hDK ok hi hk ha hs
   obtain ⟨ev,lv,pv,gi,hE,_,_⟩:=hDK
   have aE:=hE.addr (P:=prog) (i:=(i:Int)) Fc.el23 Fc.ar23 (by omega) (by omega)
   rw [Int.toNat_natCast] at aE
   have fE:fieldAddrA prog 131 (elAdr ev encE.z i 0) 1=some (elAdr ev encE.z i 3):=elAdr_field (P:=prog) (o:=0) (off:=3) (q:=false) (n:=1) hE hi (by kernel_rfl) (by decide)
   have lE:loadP prog K 3 (elAdr ev encE.z i 3)=some (.int .i64 T.E[i].2):=hE.cell Fc.ty3 (List.getElem?_eq_getElem hi) rfl
   have ou:=oK.one
   have oe:=hE.one
   have hlen:=apJ_len (T:=T) (a:=a) (b:=b) (n:=j)
   have hjn:j≤24:=by
    have:T.E.length * T.L.length≤6 * 4:=Nat.mul_le_mul (by omega) (by omega)
    unfold lkN at hj
    omega
   have ht:telB T a b j=decide (T.E[i].2≤seeD T.E[i].1 T.L[k] a b):=by
    unfold telB
    rw [← ei,← ek,getD_at hi,getD_at hk]
   have hkeep:∀ (q:Nat) (x:ABlk),G3.length+1≤q→H[q]?=some x→K[q]?=some x:=fun q x hq hx=>x0K.get (by rw [eK0,List.getElem?_set_ne (by omega)];exact hx)
   by_cases c:T.E[i].2≤seeD T.E[i].1 T.L[k] a b
   ·have t2:(seeD T.E[i].1 T.L[k] a b ≥ T.E[i].2)=True:=eq_true c
    have htt:telB T a b j=true:=by rw [ht,decide_eq_true c]
    obtain ⟨K2,eK2⟩:∃ K2,K2=K++[rowE encS 376 [((i:Int),(k:Int))] 0]:=⟨_,rfl⟩
    have xK2:Ext K K2:=by rw [eK2];exact .app .refl
    have lK2:K2.length=K.length+1:=by rw [eK2];simp
    have bsW:∀ {lit:Bool},bsA prog lit K 345 1 [(0,.agg [.int .i64 (i:Int),.int .i64 (k:Int)])]=some (.slice (some ⟨K.length,0,0⟩) 1 1,K2):=fun {lit}=>by
     rw [eK2]
     simp [bsA,rowOf,Fc.el345,fillA,repCells,AVal.isN,AVal.cells,splice,rowE,flat,encS]
    obtain ⟨v',h',e1,o1,l1,a4,one1,kp⟩:=(oK.ext xK2).appendRX (P:=prog) (x:=.slice (some ⟨K.length,0,0⟩) 1 1) (m:=[((i:Int),(k:Int))]) (base:=base) (t:=345) (Rows.own (by rw [eK2];exact get_eq rfl) rfl (by simp)) Fc.el345 encS_sc (by omega) (by omega) (by simp) (by simp;omega)
    have kp:KeepO encS 376 K2 h':=kp
    have go':=kp.box (xK2.get gKo)
    have gd':=kp.box (xK2.get gKd)
    have gB':h'[G3.length]?=some B2:=by
     have:=a4 (K2.take (G3.length+1)) (by simp;omega) ⟨K2.drop (G3.length+1),(List.take_append_drop _ _).symm⟩
     refine this.get ?_
     rw [List.getElem?_take,if_pos (by omega)];exact xK2.get gKB
    have hsp:=@Nat.succ_ne_zero;repeat' (first|simp (disch:=first|exact dqb|fail) only [go_sem,↓reduceIte,hsp,hB,← eK0,← eK,gK0,gKl,gK1,gK2,sc,gi,aE,fE,lE,t2,gKo,bsW,e1,go']|refine WP_drw ?_|refine cnd_intro (fun hsp=>?_) fun hsp=>?_)
    refine ⟨gB',fun q x hq hp hx=>?_,by omega,.inl ⟨by omega,(a4 G (by omega) (xK.trans xK2)).set (Nat.le_refl _),gd',v',rfl,?_⟩⟩
    ·rw [List.getElem?_set_ne (by omega)]
     exact kp q x (xK2.get (hkeep q x hq hx)) hp
    ·rw [apJ_succ,htt,if_pos rfl,← ei,← ek]
     exact o1.setBox go'
   ·have t2:(seeD T.E[i].1 T.L[k] a b ≥ T.E[i].2)=False:=eq_false c
    have htt:telB T a b j=false:=by rw [ht,decide_eq_false c]
    have hsp:=@Nat.succ_ne_zero;repeat' (first|simp (disch:=first|exact dqb|fail) only [go_sem,↓reduceIte,hsp,hB,← eK0,← eK,gK0,gKl,gK1,gK2,sc,gi,aE,fE,lE,t2]|refine WP_drw ?_|refine cnd_intro (fun hsp=>?_) fun hsp=>?_)
    exact ⟨gKB,fun q x hq hp hx=>hkeep q x hq hx,by omega,.inl ⟨by omega,xK,gKd,u,gKo,by rw [apJ_succ,htt];simpa using oK⟩⟩
  ·rintro H ⟨hI1,hI2,hI3,u,hI4,hI5⟩
   have ou:=hI5.one
   have hsp:=@Nat.succ_ne_zero;repeat' (first|simp (disch:=first|exact dqb|fail) only [go_sem,↓reduceIte,hsp,hI4]|refine WP_drw ?_|refine cnd_intro (fun hsp=>?_) fun hsp=>?_)
   exact ⟨xG.trans hI2,hI5.low (by omega)⟩
  ·intro e H _ q;exact q.elim
theorem run_alike {base:Nat} {h:Heap} {id:Nat} {T:EyT} {a b:Shd} (hD:EDk h id T) (ok:TOk T) (ha:shIn 20 a) (hs:shIn 20 b) :
  callL prog raw base (.fn 197 [] []) [.ptr (some ⟨id,0,0⟩),shV a,shV b] h=some (.bool (apL T a b).isEmpty,h):=by
 obtain ⟨G,eG⟩:∃ G,G=h++[shB a]++[shB b]:=⟨_,rfl⟩
 have xG:Ext h G:=by rw [eG];exact .app (.app .refl)
 have lG:G.length=h.length+2:=by rw [eG];simp
 have g1:G[h.length]?=some (shB a):=by rw [eG];exact get_app (get_eq rfl)
 have g2:G[h.length+1]?=some (shB b):=by rw [eG];exact get_eq (by simp)
 obtain ⟨w,H,e1,x1,o1⟩:=run_apart (base:=h.length) (h:=G) (by omega) (hD.ext xG) ok ha hs
 have ow:=o1.one
 have hlen:(apL T a b).length≤24:=by
  unfold apL
  split
  ·simp
  ·have:=apJ_len (T:=T) (a:=a) (b:=b) (n:=lkN T)
   have h2:T.E.length * T.L.length≤6 * 4:=Nat.mul_le_mul ok.nE.2 ok.nL.2
   exact Nat.le_trans this h2
 have hl:=own_len o1 Fc.el345 (by omega)
 have hz:decide (((apL T a b).length:Int)=0)=(apL T a b).isEmpty:=by
  cases apL T a b with
  | nil=>rfl
  | cons x l=>simp;omega
 refine callL_run func197 rfl rfl ?_
 have hsp:=@Nat.succ_ne_zero;repeat' (first|simp (disch:=first|exact dqb|fail) only [go_sem,↓reduceIte,hsp,← eG,g1,g2,e1,hl]|refine WP_drw ?_|refine cnd_intro (fun hsp=>?_) fun hsp=>?_)
 exact fB hz (xG.trans x1)
def mtB (T:EyT) (i k:Nat):Bool:=(apL T (T.P.getD i (0,0,0)) (T.P.getD k (0,0,0))).isEmpty
theorem run_match {base:Nat} {h:Heap} {id:Nat} {T:EyT} {i k:Nat} (hD:EDk h id T) (ok:TOk T) (hi:i<T.P.length) (hk:k<T.P.length) :
  callL prog raw base (.fn 128 [] []) [.ptr (some ⟨id,0,0⟩),.int .i64 (i:Int),.int .i64 (k:Int)] h=some (.bool (mtB T i k),h):=by
 have hr:=fun base=>run_alike (base:=base) hD ok (ok.P _ (List.getElem_mem hi)) (ok.P _ (List.getElem_mem hk))
 obtain ⟨ev,lv,pv,g,_,_,hP⟩:=hD
 have op:=hP.one
 have a1:=hP.addr (P:=prog) (i:=(i:Int)) Fc.el25 Fc.ar25 (by omega) (by omega)
 have a2:=hP.addr (P:=prog) (i:=(k:Int)) Fc.el25 Fc.ar25 (by omega) (by omega)
 rw [Int.toNat_natCast] at a1 a2
 have l1:loadP prog h 128 (elAdr pv enc3.z i 0)=some (shV T.P[i]):=hP.load Fc.ty128 (List.getElem?_eq_getElem hi)
 have l2:loadP prog h 128 (elAdr pv enc3.z k 0)=some (shV T.P[k]):=hP.load Fc.ty128 (List.getElem?_eq_getElem hk)
 unfold mtB
 rw [getD_at hi,getD_at hk]
 refine callL_run func128 rfl rfl ?_
 have hsp:=@Nat.succ_ne_zero;repeat' (first|simp (disch:=first|exact dqb|fail) only [go_sem,↓reduceIte,hsp,g,a1,a2,l1,l2,hr]|refine WP_drw ?_|refine cnd_intro (fun hsp=>?_) fun hsp=>?_)
 exact fB rfl
end Go.AM
namespace Go.AM
open Go.Proofs.Tryz
attribute [-go_sem] put_ne put_same
attribute [local go_sem ↓] put_if
def twoT:EyT:=⟨[((2,1,0),6),((0,1,3),6)],[(1,1,1),(2,0,1)],[(5,5,5),(6,6,5),(8,5,5),(5,5,7),(6,7,5),(5,5,6)]⟩
instance {m:Int} {s:Shd}:Decidable (shIn m s):=by unfold shIn;infer_instance
theorem two_ok:TOk twoT:=⟨by decide,by decide,by decide,by decide,by decide,by decide⟩
theorem bd3S {x y z:Int}:buildA prog 128 [(0,.int .i64 x),(1,.int .i64 y),(2,.int .i64 z)]=some (.agg [.int .i64 x,.int .i64 y,.int .i64 z]):=by kernel_rfl
theorem bd3L {x y z:Int}:buildA prog 133 [(0,.int .i64 x),(1,.int .i64 y),(2,.int .i64 z)]=some (.agg [.int .i64 x,.int .i64 y,.int .i64 z]):=by kernel_rfl
theorem run_Two {base:Nat} {h:Heap} (hb:base≤h.length):Ret prog raw base (.fn 53 [] []) [] h (fun w H=>Ext h H∧TblAt H w twoT):=by
 obtain ⟨G,eG⟩:∃ G,G=h++[tbB (.slice none 0 0) (.slice none 0 0) (.slice none 0 0)]:=⟨_,rfl⟩
 have xG:Ext h G:=by rw [eG];exact .app .refl
 have gG:G[h.length]?=some (tbB (.slice none 0 0) (.slice none 0 0) (.slice none 0 0)):=by rw [eG];exact get_eq rfl
 obtain ⟨H1,eH1⟩:∃ H1,H1=G++[rowE encE 131 twoT.E 0]:=⟨_,rfl⟩
 have x1:Ext G H1:=by rw [eH1];exact .app .refl
 have g1:H1[G.length]?=some (rowE encE 131 twoT.E 0):=by rw [eH1];exact get_eq rfl
 obtain ⟨H2,eH2⟩:∃ H2,H2=H1++[rowE enc3 133 twoT.L 0]:=⟨_,rfl⟩
 have x2:Ext H1 H2:=by rw [eH2];exact .app .refl
 have g2:H2[H1.length]?=some (rowE enc3 133 twoT.L 0):=by rw [eH2];exact get_eq rfl
 obtain ⟨H3,eH3⟩:∃ H3,H3=H2++[rowE enc3 128 twoT.P 0]:=⟨_,rfl⟩
 have x3:Ext H2 H3:=by rw [eH3];exact .app .refl
 have g3:H3[H2.length]?=some (rowE enc3 128 twoT.P 0):=by rw [eH3];exact get_eq rfl
 have g03:=(x1.trans (x2.trans x3)).get gG
 have lG:G.length=h.length+1:=by rw [eG];simp
 have l1:=x1.len
 have l2:=x2.len
 have l3:=x3.len
 have b1:∀ {lit:Bool},bsA prog lit G 23 2 [(0,.agg [.int .i64 2,.int .i64 1,.int .i64 0,.int .i64 6]),(1,.agg [.int .i64 0,.int .i64 1,.int .i64 3,.int .i64 6])]=some (.slice (some ⟨G.length,0,0⟩) 2 2,H1):=fun {lit}=>by
  rw [eH1]
  simp [bsA,rowOf,Fc.el23,fillA,repCells,AVal.isN,AVal.cells,splice,rowE,flat,encE,twoT]
 have b2:∀ {lit:Bool},bsA prog lit H1 24 2 [(0,.agg [.int .i64 1,.int .i64 1,.int .i64 1]),(1,.agg [.int .i64 2,.int .i64 0,.int .i64 1])]=some (.slice (some ⟨H1.length,0,0⟩) 2 2,H2):=fun {lit}=>by
  rw [eH2]
  simp [bsA,rowOf,Fc.el24,fillA,repCells,AVal.isN,AVal.cells,splice,rowE,flat,enc3,twoT]
 have b3:∀ {lit:Bool},bsA prog lit H2 25 6 [(0,.agg [.int .i64 5,.int .i64 5,.int .i64 5]),(1,.agg [.int .i64 6,.int .i64 6,.int .i64 5]),(2,.agg [.int .i64 8,.int .i64 5,.int .i64 5]),(3,.agg [.int .i64 5,.int .i64 5,.int .i64 7]),(4,.agg [.int .i64 6,.int .i64 7,.int .i64 5]),(5,.agg [.int .i64 5,.int .i64 5,.int .i64 6])]=some (.slice (some ⟨H2.length,0,0⟩) 6 6,H3):=fun {lit}=>by
  rw [eH3]
  simp [bsA,rowOf,Fc.el25,fillA,repCells,AVal.isN,AVal.cells,splice,rowE,flat,enc3,twoT]
 unfold tbB at eG gG g03
 refine ret_raw func53 rfl (by kernel_rfl) ?_
 have hsp:=@Nat.succ_ne_zero;repeat' (first|simp (disch:=first|exact dqb|fail) only [go_sem,↓reduceIte,hsp,← eG,bd3S,bd3L,b1,b2,b3,g03]|refine WP_drw ?_|refine cnd_intro (fun hsp=>?_) fun hsp=>?_)
 refine ⟨Ext.set (xG.trans (x1.trans (x2.trans x3))) (Nat.le_refl _),_,_,_,rfl,Rows.own (l:=twoT.E) (e:=131) (n:=2) (ver:=0) ?_ rfl (by simp [twoT]),Rows.own (l:=twoT.L) (e:=133) (n:=2) (ver:=0) ?_ rfl (by simp [twoT]),Rows.own (l:=twoT.P) (e:=128) (n:=6) (ver:=0) ?_ rfl (by simp [twoT])⟩
 ·rw [List.getElem?_set_ne (by omega)];exact (x2.trans x3).get g1
 ·rw [List.getElem?_set_ne (by omega)];exact x3.get g2
 ·rw [List.getElem?_set_ne (by omega)];exact g3
end Go.AM
