/-
  Contracts: the chapter's example is as it should be (Ten, awake).
-/
import Derived.Test.YtikgghhceolaeaaGreatU18
import Derived.Test.YtikgghhceolaeaaGreatU12
import Derived.Test.YtikgghhceolaeaaGreatU13
set_option linter.unusedSimpArgs false
set_option linter.unusedVariables false
namespace Go.AM
open Go.Proofs.Tryz
attribute [-go_sem] put_ne put_same
attribute [local go_sem ↓] put_if
theorem bs2I {lit:Bool} {H:Heap} {a b:Int} (hl:lit=false):bsA prog lit H 32 2 [(0,.int .i64 a),(1,.int .i64 b)]=some (.slice (some ⟨H.length,0,0⟩) 2 2,H++[rowB [a,b] 0]):=by
 subst hl;simp [bsA,rowOf,Fc.el32,fillA,repCells,AVal.isN,AVal.cells,splice,rowB,ints]
theorem bs2W {lit:Bool} {H:Heap} {a b:Wnt}:bsA prog lit H 33 2 [(0,.agg [.int .i64 a.lg,.int .i64 a.pr,.int .i64 a.off,.int .i64 a.fl,.int .i64 a.jn]),(1,.agg [.int .i64 b.lg,.int .i64 b.pr,.int .i64 b.off,.int .i64 b.fl,.int .i64 b.jn])]=some (.slice (some ⟨H.length,0,0⟩) 2 2,H++[rowE encW 50 [a,b] 0]):=by
 simp [bsA,rowOf,Fc.el33,fillA,repCells,AVal.isN,AVal.cells,splice,rowE,flat,encW]
theorem bs2C {lit:Bool} {H:Heap} {a b:Ct}:bsA prog lit H 51 2 [(0,.agg [.int .i64 a.w,.int .i64 a.f,.bool a.j]),(1,.agg [.int .i64 b.w,.int .i64 b.f,.bool b.j])]=some (.slice (some ⟨H.length,0,0⟩) 2 2,H++[rowE encC 57 [a,b] 0]):=by
 simp [bsA,rowOf,Fc.el51,fillA,repCells,AVal.isN,AVal.cells,splice,rowE,flat,encC]
theorem bs2S {lit:Bool} {H:Heap} {a b:Int × Int}:bsA prog lit H 112 2 [(0,.agg [.int .i64 a.1,.int .i64 a.2]),(1,.agg [.int .i64 b.1,.int .i64 b.2])]=some (.slice (some ⟨H.length,0,0⟩) 2 2,H++[rowE encS 84 [a,b] 0]):=by
 simp [bsA,rowOf,Fc.el112,fillA,repCells,AVal.isN,AVal.cells,splice,rowE,flat,encS]
theorem app_non {base id:Nat} {H:Heap} {l:List Int} {n:Nat} (hg:H[id]?=some (rowB l 0)) (hn:n=l.length):appendA prog base H 32 (.slice (some ⟨id,0,0⟩) n n) (.slice none 0 0)=some (.slice (some ⟨id,0,0⟩) n n,H):=by
 subst hn
 have hst:storeN base H (ARef.add ⟨id,0,0⟩ l.length) []=some H:=by
  unfold storeN
  simp only [ARef.add,hg,rowB]
  rw [if_pos ⟨trivial,by simp [ints_length],rfl,.inr rfl⟩]
  simp only [splice]
  rw [show (⟨.cells (ints l) 3 true false,0⟩:ABlk)=rowB l 0 from rfl,set_id hg]
 simp [appendA,Fc.el32,lenA,firstN,hst]
theorem run_Ten {base:Nat} {h:Heap} (hb:base≤h.length):Ret prog raw base (.fn 19 [] []) [.slice none 0 0] h (fun w H=>Ext h H∧RibAt H w tenR):=by
 obtain ⟨G,eG⟩:∃ G,G=h++[ribB 0 (.slice none 0 0) (.slice none 0 0)]:=⟨_,rfl⟩
 have xG:Ext h G:=by rw [eG];exact .app .refl
 have gG:G[h.length]?=some (ribB 0 (.slice none 0 0) (.slice none 0 0)):=by rw [eG];exact get_eq rfl
 have lG:G.length=h.length+1:=by rw [eG];simp
 obtain ⟨H1,eH1⟩:∃ H1,H1=G++[rowB [3,5] 0]:=⟨_,rfl⟩
 have x1:Ext G H1:=by rw [eH1];exact .app .refl
 have g1:H1[G.length]?=some (rowB [3,5] 0):=by rw [eH1];exact get_eq rfl
 have l1:H1.length=h.length+2:=by rw [eH1];simp [lG]
 obtain ⟨H2,eH2⟩:∃ H2,H2=H1++[rowE encW 50 [⟨4,10,3,1,1⟩,⟨3,6,1,0,2⟩] 0]:=⟨_,rfl⟩
 have x2:Ext H1 H2:=by rw [eH2];exact .app .refl
 have g2:H2[H1.length]?=some (rowE encW 50 [⟨4,10,3,1,1⟩,⟨3,6,1,0,2⟩] 0):=by rw [eH2];exact get_eq rfl
 have l2:H2.length=h.length+3:=by rw [eH2];simp [l1]
 have g02:=(x1.trans x2).get gG
 have b1:=fun lit (hl:lit=false)=>bs2I (lit:=lit) (H:=G) (a:=3) (b:=5) hl
 rw [← eH1] at b1
 have b2:=fun lit=>bs2W (lit:=lit) (H:=H1) (a:=⟨4,10,3,1,1⟩) (b:=⟨3,6,1,0,2⟩)
 rw [← eH2] at b2
 have ap:=app_non (base:=base) (id:=G.length) (n:=2) (H:=H1) g1 rfl
 unfold ribB at eG gG g02
 refine ret_raw func19 rfl (by kernel_rfl) ?_
 have hsp:=@Nat.succ_ne_zero;repeat' (first|simp (disch:=first|exact dqb|fail) only [go_sem,↓reduceIte,hsp,← eG,b1,ap,b2,g02]|refine WP_drw ?_|refine cnd_intro (fun hsp=>?_) fun hsp=>?_)
 have xf:Ext h (H2.set h.length (ribB 10 (.slice (some ⟨G.length,0,0⟩) 2 2) (.slice (some ⟨H1.length,0,0⟩) 2 2))):=Ext.set ((xG.trans x1).trans x2) (Nat.le_refl _)
 refine ⟨xf,_,_,rfl,ints_rowB (l:=[3,5]) ?_ ⟨by simp,fun y hy=>?_⟩ rfl,Rows.own (l:=([⟨4,10,3,1,1⟩,⟨3,6,1,0,2⟩]:List Wnt)) (e:=50) ?_ rfl (by simp)⟩
 ·rw [List.getElem?_set_ne (by omega)];exact x2.get g1
 ·simp at hy;omega
 ·rw [List.getElem?_set_ne (by omega)];exact g2
set_option maxRecDepth 100000 in
set_option maxHeartbeats 4000000 in
theorem run_awake {base:Nat} {h:Heap}:callL prog raw base (.fn 16 [] []) [] h=some (.bool true,h):=by
 have hsm:tenR.F.length≤1048576:=by decide
 obtain ⟨v1,A1,e1,x1,T1⟩:=run_Ten (base:=h.length) (h:=h) (Nat.le_refl _)
 have k1:=fun base=>run_Take (base:=base) (c:=⟨0,0,true⟩) T1 hsm
 rw [ten_t1] at k1
 have l1:=x1.len
 obtain ⟨v2,A2,e2,x2,T2⟩:=run_Ten (base:=h.length) (h:=A1) l1
 have k2:=fun base=>run_Take (base:=base) (c:=⟨0,2,false⟩) T2 hsm
 rw [ten_t2] at k2
 have l2:=x2.len
 obtain ⟨v3,A3,e3,x3,T3⟩:=run_Ten (base:=h.length) (h:=A2) (by omega)
 have l3:=x3.len
 obtain ⟨w3,B3,f3,y3,u3,rfl,O3⟩:=run_Best (base:=h.length) (by omega) T3 hsm
 have m3:=y3.len
 obtain ⟨v4,A4,e4,x4,T4⟩:=run_Ten (base:=h.length) (h:=B3) (by omega)
 have l4:=x4.len
 obtain ⟨w4,B4,f4,y4,u4,rfl,O4⟩:=run_Made (base:=h.length) (by omega) T4 hsm
 have m4:=y4.len
 obtain ⟨v5,A5,e5,x5,T5⟩:=run_Ten (base:=h.length) (h:=B4) (by omega)
 have l5:=x5.len
 obtain ⟨A5',eA5⟩:∃ A5',A5'=A5++[rowE encC 57 [⟨0,0,true⟩,⟨0,6,false⟩] 0]:=⟨_,rfl⟩
 have x5':Ext A5 A5':=by rw [eA5];exact .app .refl
 have P5:Rows encC A5' (.slice (some ⟨A5.length,0,0⟩) 2 2) [⟨0,0,true⟩,⟨0,6,false⟩]:=Rows.own (by rw [eA5];exact get_eq rfl) rfl (by simp)
 have l5':=x5'.len
 have bs5:=fun lit=>bs2C (lit:=lit) (H:=A5) (a:=⟨0,0,true⟩) (b:=⟨0,6,false⟩)
 rw [← eA5] at bs5
 obtain ⟨w5,B5,f5,y5,u5,rfl,O5⟩:=run_Rest (base:=h.length) (by omega) (T5.ext x5') hsm P5
 rw [ten_rst] at f5 O5
 have m5:=y5.len
 obtain ⟨v6,A6,e6,x6,T6⟩:=run_Ten (base:=h.length) (h:=B5) (by omega)
 have l6:=x6.len
 obtain ⟨w6,B6,f6,y6,u6,rfl,O6⟩:=run_Used (base:=h.length) (by omega) T6 hsm
 rw [ten_usd] at O6
 have m6:=y6.len
 obtain ⟨v7,A7,e7,x7,T7⟩:=run_Ten (base:=h.length) (h:=B6) (by omega)
 have k7:=fun base=>run_Raise (base:=base) (want:=1) T7 hsm
 rw [ten_rse] at k7
 have l7:=x7.len
 obtain ⟨v8,A8,e8,x8,T8⟩:=run_Ten (base:=h.length) (h:=A7) (by omega)
 have k8:=fun base=>run_Damage (base:=base) (u:=8) T8 hsm (by omega)
 rw [ten_dmg] at k8
 have l8:=x8.len
 obtain ⟨v9,A9,e9,x9,T9⟩:=run_Ten (base:=h.length) (h:=A8) (by omega)
 have k9:=fun base=>run_Mended (base:=base) (u:=3) T9 hsm
 rw [ten_men] at k9
 rw [ten_chk,ten_all] at f3
 rw [ten_chk] at f4 f6
 simp only at k1 k2 k7 k8 k9 f5
 have z4:=x4.trans y4
 have n3:=own_len (O3.ext z4) Fc.el51 (by rw [ten_bst];decide)
 rw [ten_bst] at n3
 have I4:=ownE_ints O4 (by unfold madE;rw [if_neg (by simp [ten_chk])];exact val_small ten_ok (by decide))
 have n4:=lenI I4
 have a40:=adrI (i:=0) (by omega) I4 (by rw [ten_madl];omega)
 have a46:=adrI (i:=6) (by omega) I4 (by rw [ten_madl];omega)
 have a47:=adrI (i:=7) (by omega) I4 (by rw [ten_madl];omega)
 have d40:=loadI I4 (i:=0) (by rw [ten_madl];omega)
 have d46:=loadI I4 (i:=6) (by rw [ten_madl];omega)
 have d47:=loadI I4 (i:=7) (by rw [ten_madl];omega)
 rw [ten_madl] at n4
 rw [ten_mad0] at d40
 rw [ten_mad6] at d46
 rw [ten_mad7] at d47
 have z69:Ext B6 A9:=(x7.trans x8).trans x9
 have z59:Ext B5 A9:=(x6.trans y6).trans z69
 have l9:=x9.len
 obtain ⟨C1,eC1⟩:∃ C1,C1=A9++[rowE encS 84 [(3,3),(5,5)] 0]:=⟨_,rfl⟩
 have xc1:Ext A9 C1:=by rw [eC1];exact .app .refl
 have bs6:=fun lit=>bs2S (lit:=lit) (H:=A9) (a:=(3,3)) (b:=(5,5))
 rw [← eC1] at bs6
 simp only at bs6
 have q5:=fun base=>run_eqS (base:=base) ((O5.rows (by simp)).ext (z59.trans xc1)) (Rows.own (E:=encS) (e:=84) (id:=A9.length) (ver:=0) (n:=2) (l:=[(3,3),(5,5)]) (by rw [eC1];exact get_eq rfl) rfl (by simp)) (by simp)
 obtain ⟨C2,eC2⟩:∃ C2,C2=C1++[rowB [0] 0]:=⟨_,rfl⟩
 have xc2:Ext C1 C2:=by rw [eC2];exact .app .refl
 have s0:Small [(0:Int)]:=⟨by simp,fun y hy=>by simp at hy;omega⟩
 have I6:=own_ints (O6.ext ((z69.trans xc1).trans xc2)) s0
 have I6':Ints C2 (.slice (some ⟨C1.length,0,0⟩) 1 1) [0]:=ints_rowB (by rw [eC2];exact get_eq rfl) s0 rfl
 have q6:=fun base=>run_eqI (base:=base) I6 I6'
 have o3:=O3.one
 have o4:=O4.one
 have o5:=O5.one
 have o6:=O6.one
 have xf:Ext h C2:=(((((((x1.trans x2).trans x3).trans y3).trans z4).trans x5).trans x5').trans y5).trans ((z59.trans xc1).trans xc2)
 refine callL_run func16 rfl rfl ?_
 have hsp:=@Nat.succ_ne_zero;repeat' (first|simp (disch:=first|exact dqb|fail) only [go_sem,↓reduceIte,hsp,e1,k1,e2,k2,e3,f3,e4,f4,n3,n4,a40,a46,a47,d40,d46,d47,e5,bs5,f5,e6,f6,e7,k7,e8,k8,e9,k9,bs6,← eC1,q5,← eC2,q6,decide_true]|refine WP_drw ?_|refine cnd_intro (fun hsp=>?_) fun hsp=>?_)
 exact fB rfl xf
end Go.AM
namespace Go.AM
open Go.Proofs.Tryz
namespace Flt
def idx {α:Type} (p:α→Bool):List α→Int
 | []=>-1
 | x :: xs=>if p x=true then 0 else (if idx p xs<0 then -1 else idx p xs+1)
section
variable {α:Type} (p:α→Bool)
theorem idx_ge:∀ l,-1≤idx p l
 | []=>by simp [idx]
 | x :: xs=>by
  have:=idx_ge xs
  simp only [idx];split
  ·omega
  ·split<;>omega
theorem idx_any:∀ l,(0≤idx p l) ↔ l.any p=true
 | []=>by simp [idx]
 | x :: xs=>by
  have:=idx_any xs
  have h0:=idx_ge p xs
  simp only [idx,List.any_cons]
  by_cases h:p x=true
  ·simp [h]
  ·simp only [h,if_false,Bool.false_or,Bool.false_eq_true]
   rw [← this];split<;>omega
theorem idx_drop:∀ (l:List α) (n:Nat),(∀ x ∈ l.take n,p x=false)→n≤l.length→idx p l=(if idx p (l.drop n)<0 then -1 else idx p (l.drop n)+n)
 | l,0,_,_=>by
  have:=idx_ge p l
  simp only [List.drop_zero];split<;>omega
 | [],n+1,_,hn=>by simp at hn
 | x :: xs,n+1,hp,hn=>by
  have h1:p x=false:=hp x (by simp)
  have ih:=idx_drop xs n (fun y hy=>hp y (by simp [hy])) (by simpa using hn)
  simp only [idx,h1,Bool.false_eq_true,if_false,List.drop_succ_cons]
  have h0:=idx_ge p (xs.drop n)
  rw [ih]
  split<;>rename_i h2<;>split<;>rename_i h3<;>(try split at h2)<;>(try split at h3)<;>(try omega)<;>(try split)<;>(try omega)
theorem idx_hit {l:List α} {n:Nat} (hn:n<l.length) (hb:∀ x ∈ l.take n,p x=false) (hp:p l[n]=true):idx p l=n:=by
 rw [idx_drop p l n hb (by omega),List.drop_eq_getElem_cons hn]
 simp [idx,hp]
theorem idx_miss {l:List α} (hb:∀ x ∈ l.take l.length,p x=false):idx p l=-1:=by
 rw [idx_drop p l l.length hb (Nat.le_refl _)]
 simp [idx]
theorem take_next {l:List α} {n:Nat} (hn:n<l.length) (hb:∀ x ∈ l.take n,p x=false) (hp:p l[n]=false):∀ x ∈ l.take (n+1),p x=false:=fun x hx=>by
 rw [List.take_add_one,List.getElem?_eq_getElem hn] at hx
 simp only [Option.toList,List.mem_append,List.mem_singleton] at hx
 rcases hx with hx|rfl
 ·exact hb x hx
 ·exact hp
end
structure Prt where
 rib:List Int
 each:Int
 ph:Int
 wv:Bool
structure Sgt where
 rib:Int
 lo:Int
 hi:Int
 bad:Bool
structure Lom where
 R:Int
 T:Int
 ps:List Prt
 ss:List Sgt
structure PrtV where
 v:AVal
 each:Int
 ph:Int
 wv:Bool
def norm (v:AVal):AVal:=if v.scalar=true then v else .ptr none
theorem norm_one {v:AVal} (h:One v):norm v=v:=by unfold norm;rw [if_pos h.2.2]
def encP:Enc PrtV:=⟨4,fun p=>[norm p.v,.int .i64 p.each,.int .i64 p.ph,.bool p.wv],fun _=>rfl,by decide⟩
def encS:Enc Sgt:=⟨4,fun s=>[.int .i64 s.rib,.int .i64 s.lo,.int .i64 s.hi,.bool s.bad],fun _=>rfl,by decide⟩
def encB:Enc (Int × Int × Int):=⟨3,fun b=>[.int .i64 b.1,.int .i64 b.2.1,.int .i64 b.2.2],fun _=>rfl,by decide⟩
def encT:Enc (Int × Int):=⟨2,fun b=>[.int .i64 b.1,.int .i64 b.2],fun _=>rfl,by decide⟩
theorem encP_sc:∀ y,(encP.cells y).all AVal.scalar=true:=fun y=>by
 have:(norm y.v).scalar=true:=by unfold norm;split<;>simp_all [AVal.scalar]
 simp only [encP,List.all_cons,this,List.all_nil]
 rfl
theorem encS_sc:∀ y,(encS.cells y).all AVal.scalar=true:=fun y=>by simp [encS,AVal.scalar]
theorem encB_sc:∀ y,(encB.cells y).all AVal.scalar=true:=fun y=>by simp [encB,AVal.scalar]
theorem encT_sc:∀ y,(encT.cells y).all AVal.scalar=true:=fun y=>by simp [encT,AVal.scalar]
def Parts (h:Heap) (v:AVal) (ps:List Prt):Prop:=∃ vs:List PrtV,Rows encP h v vs∧vs.length=ps.length∧∀ (i:Nat) x p,vs[i]?=some x→ps[i]?=some p→Ints h x.v p.rib∧x.each=p.each∧x.ph=p.ph∧x.wv=p.wv
theorem Parts.ext {h H:Heap} {v:AVal} {ps:List Prt} (x:Parts h v ps) (e:Ext h H):Parts H v ps:=by
 obtain ⟨vs,h1,h2,h3⟩:=x
 exact ⟨vs,h1.ext e,h2,fun i x p a b=>⟨(h3 i x p a b).1.ext e,(h3 i x p a b).2⟩⟩
def LomAt (h:Heap) (v:AVal) (L:Lom):Prop:=∃ pv sv,v=.agg [.int .i64 L.R,.int .i64 L.T,pv,sv]∧Parts h pv L.ps∧Rows encS h sv L.ss
theorem LomAt.ext {h H:Heap} {v:AVal} {L:Lom} (x:LomAt h v L) (e:Ext h H):LomAt H v L:=by
 obtain ⟨pv,sv,h1,h2,h3⟩:=x
 exact ⟨pv,sv,h1,h2.ext e,h3.ext e⟩
theorem idxF_P {base:Nat} {h:Heap} {v g:AVal} {l:List (PrtV)} (p:PrtV→Bool) (hR:Rows encP h v l) (hg:∀ base x,x ∈ l→callL prog raw base g [.agg (encP.cells x)] h=some (.bool (p x),h)) :
  callL prog raw base (.fn 157 [] []) [v,g] h=some (.int .i64 (idx p l),h):=by
 have hb:l.length<2 ^ 60:=hR.1
 refine callL_run func157 rfl rfl ?_
 have hsp:=@Nat.succ_ne_zero;repeat' (first|simp (disch:=first|exact dqb|fail) only [go_sem,hsp,hR.len Fc.el23]|refine WP_drw ?_|refine cnd_intro (fun hsp=>?_) fun hsp=>?_)
 refine WP_loop (fun σ=>∃ n:Nat,σ.fr 8=.int .i64 (n:Int)∧σ.fr 0=v∧σ.fr 1=g∧σ.fr 7=.int .i64 (l.length:Int)∧σ.h=h∧n≤l.length∧(∀ x ∈ l.take n,p x=false)) (fun σ=>match σ.fr 8 with|.int _ x=>(((l.length:Nat):Int)-x).toNat|_=>0) ?_ ?_
 ·refine ⟨0,?_,?_,?_,?_,?_,by omega,?_⟩
  iterate 5 focus (first|rfl|(simp (disch:=first|exact dqb|fail) only [go_sem,Int.natCast_zero];first|done|rfl))
  intro x hx;simp at hx
 ·rintro ⟨fr,hp⟩ ⟨n,r8,r0,r1,r7,rh,hi,hP⟩
  dsimp only at r8 r0 r1 r7 rh hi hP
  subst rh
  by_cases hn:n<l.length
  ·have hlt:((n:Int)<(l.length:Int))=True:=eq_true (by omega)
   have hx:l[n]?=some l[n]:=List.getElem?_eq_getElem hn
   have had:=hR.addr (i:=(n:Int)) Fc.el23 Fc.ar23 (by omega) (by omega)
   rw [Int.toNat_natCast] at had
   have hld:=hR.load Fc.ty81 hx
   have hc:=fun base=>hg base l[n] (List.getElem_mem hn)
   cases hp:p l[n] with
   | true =>
    rw [hp] at hc
    have hsp:=@Nat.succ_ne_zero;repeat' (first|simp (disch:=first|exact dqb|fail) only [go_sem,hsp,r8,r0,r1,r7,hlt,had,hld,hc]|refine WP_drw ?_|refine cnd_intro (fun hsp=>?_) fun hsp=>?_)
    rw [idx_hit p hn hP hp]
    all_goals (first|refine fI ?_|refine fB ?_|refine fII ?_ ?_|refine fBI ?_ ?_|refine fIII ?_ ?_ ?_|refine fIIB ?_ ?_ ?_|skip);all_goals (try dsimp only);all_goals (try with_reducible rfl);all_goals (try omega)
   | false =>
    rw [hp] at hc
    have hsp:=@Nat.succ_ne_zero;repeat' (first|simp (disch:=first|exact dqb|fail) only [go_sem,hsp,r8,r0,r1,r7,hlt,had,hld,hc]|refine WP_drw ?_|refine cnd_intro (fun hsp=>?_) fun hsp=>?_)
    exact ⟨⟨n+1,by simp,by omega,take_next p hn hP hp⟩,by omega⟩
  ·have hlt:((n:Int)<(l.length:Int))=False:=eq_false (by omega)
   obtain rfl:n=l.length:=by omega
   have hsp:=@Nat.succ_ne_zero;repeat' (first|simp (disch:=first|exact dqb|fail) only [go_sem,hsp,r8,r0,r1,r7,hlt]|refine WP_drw ?_|refine cnd_intro (fun hsp=>?_) fun hsp=>?_)
   rw [idx_miss p hP]
   all_goals (first|refine fI ?_|refine fB ?_|refine fII ?_ ?_|refine fBI ?_ ?_|refine fIII ?_ ?_ ?_|refine fIIB ?_ ?_ ?_|skip);all_goals (try dsimp only);all_goals (try with_reducible rfl);all_goals (try omega)
theorem anyF_P {base:Nat} {h:Heap} {v g:AVal} {l:List (PrtV)} (p:PrtV→Bool) (hR:Rows encP h v l) (hg:∀ base x,x ∈ l→callL prog raw base g [.agg (encP.cells x)] h=some (.bool (p x),h)) :
  callL prog raw base (.fn 142 [] []) [v,g] h=some (.bool (l.any p),h):=by
 have hi:=fun base=>idxF_P (base:=base) p hR hg
 have h0:=idx_any p l
 refine callL_run func142 rfl rfl ?_
 have hsp:=@Nat.succ_ne_zero;repeat' (first|simp (disch:=first|exact dqb|fail) only [go_sem,hsp,hi]|refine WP_drw ?_|refine cnd_intro (fun hsp=>?_) fun hsp=>?_)
 refine fB ?_
 by_cases h1:l.any p=true
 ·rw [h1];simpa using h0.2 h1
 ·have h2:¬ 0≤idx p l:=fun h=>h1 (h0.1 h)
  simp only [Bool.not_eq_true] at h1
  rw [h1];simpa using h2
theorem not_P {base id:Nat} {h:Heap} {g:AVal} {x:PrtV} {b:Bool} (hid:h[id]?=some ⟨.cells [g] 160 false false,0⟩) (hg:∀ base T,callL prog raw base g [.agg (encP.cells x)] (h++T)=some (.bool b,h++T)) :
  callL prog raw base (.fn 143 [] [.ptr (some ⟨id,0,0⟩)]) [.agg (encP.cells x)] h=some (.bool (!b),h):=by
 have hgi:=lt_of_get hid
 simp only [encP] at hg ⊢
 refine callL_run func143 rfl rfl ?_
 have hsp:=@Nat.succ_ne_zero;repeat' (first|simp (disch:=first|exact dqb|fail) only [go_sem,hsp,hid,hg]|refine WP_drw ?_|refine cnd_intro (fun hsp=>?_) fun hsp=>?_)
 exact fB rfl
theorem every_P {base:Nat} {h:Heap} {v g:AVal} {l:List (PrtV)} (p:PrtV→Bool) (hR:Rows encP h v l) (hg:∀ base T x,x ∈ l→callL prog raw base g [.agg (encP.cells x)] (h++T)=some (.bool (p x),h++T)) (h1:One g) :
  callL prog raw base (.fn 95 [] []) [v,g] h=some (.bool (l.all p),h):=by
 have hc:=fun base=>anyF_P (base:=base) (fun x=>!p x) hR.app (fun base x hx=>not_P (x:=x) (get_eq rfl) (fun base T=>by have:=hg base ([⟨.cells [g] 160 false false,0⟩]++T) x hx;rwa [← List.append_assoc] at this))
 refine callL_run func95 rfl rfl ?_
 have hsp:=@Nat.succ_ne_zero;repeat' (first|simp (disch:=first|exact dqb|fail) only [go_sem,hsp,hc]|refine WP_drw ?_|refine cnd_intro (fun hsp=>?_) fun hsp=>?_)
 refine fB ?_
 rw [List.any_eq_not_all_not]
 simp
theorem idxF_S {base:Nat} {h:Heap} {v g:AVal} {l:List (Sgt)} (p:Sgt→Bool) (hR:Rows encS h v l) (hg:∀ base x,x ∈ l→callL prog raw base g [.agg (encS.cells x)] h=some (.bool (p x),h)) :
  callL prog raw base (.fn 158 [] []) [v,g] h=some (.int .i64 (idx p l),h):=by
 have hb:l.length<2 ^ 60:=hR.1
 refine callL_run func158 rfl rfl ?_
 have hsp:=@Nat.succ_ne_zero;repeat' (first|simp (disch:=first|exact dqb|fail) only [go_sem,hsp,hR.len Fc.el24]|refine WP_drw ?_|refine cnd_intro (fun hsp=>?_) fun hsp=>?_)
 refine WP_loop (fun σ=>∃ n:Nat,σ.fr 8=.int .i64 (n:Int)∧σ.fr 0=v∧σ.fr 1=g∧σ.fr 7=.int .i64 (l.length:Int)∧σ.h=h∧n≤l.length∧(∀ x ∈ l.take n,p x=false)) (fun σ=>match σ.fr 8 with|.int _ x=>(((l.length:Nat):Int)-x).toNat|_=>0) ?_ ?_
 ·refine ⟨0,?_,?_,?_,?_,?_,by omega,?_⟩
  iterate 5 focus (first|rfl|(simp (disch:=first|exact dqb|fail) only [go_sem,Int.natCast_zero];first|done|rfl))
  intro x hx;simp at hx
 ·rintro ⟨fr,hp⟩ ⟨n,r8,r0,r1,r7,rh,hi,hP⟩
  dsimp only at r8 r0 r1 r7 rh hi hP
  subst rh
  by_cases hn:n<l.length
  ·have hlt:((n:Int)<(l.length:Int))=True:=eq_true (by omega)
   have hx:l[n]?=some l[n]:=List.getElem?_eq_getElem hn
   have had:=hR.addr (i:=(n:Int)) Fc.el24 Fc.ar24 (by omega) (by omega)
   rw [Int.toNat_natCast] at had
   have hld:=hR.load Fc.ty86 hx
   have hc:=fun base=>hg base l[n] (List.getElem_mem hn)
   cases hp:p l[n] with
   | true =>
    rw [hp] at hc
    have hsp:=@Nat.succ_ne_zero;repeat' (first|simp (disch:=first|exact dqb|fail) only [go_sem,hsp,r8,r0,r1,r7,hlt,had,hld,hc]|refine WP_drw ?_|refine cnd_intro (fun hsp=>?_) fun hsp=>?_)
    rw [idx_hit p hn hP hp]
    all_goals (first|refine fI ?_|refine fB ?_|refine fII ?_ ?_|refine fBI ?_ ?_|refine fIII ?_ ?_ ?_|refine fIIB ?_ ?_ ?_|skip);all_goals (try dsimp only);all_goals (try with_reducible rfl);all_goals (try omega)
   | false =>
    rw [hp] at hc
    have hsp:=@Nat.succ_ne_zero;repeat' (first|simp (disch:=first|exact dqb|fail) only [go_sem,hsp,r8,r0,r1,r7,hlt,had,hld,hc]|refine WP_drw ?_|refine cnd_intro (fun hsp=>?_) fun hsp=>?_)
    exact ⟨⟨n+1,by simp,by omega,take_next p hn hP hp⟩,by omega⟩
  ·have hlt:((n:Int)<(l.length:Int))=False:=eq_false (by omega)
   obtain rfl:n=l.length:=by omega
   have hsp:=@Nat.succ_ne_zero;repeat' (first|simp (disch:=first|exact dqb|fail) only [go_sem,hsp,r8,r0,r1,r7,hlt]|refine WP_drw ?_|refine cnd_intro (fun hsp=>?_) fun hsp=>?_)
   rw [idx_miss p hP]
   all_goals (first|refine fI ?_|refine fB ?_|refine fII ?_ ?_|refine fBI ?_ ?_|refine fIII ?_ ?_ ?_|refine fIIB ?_ ?_ ?_|skip);all_goals (try dsimp only);all_goals (try with_reducible rfl);all_goals (try omega)
theorem anyF_S {base:Nat} {h:Heap} {v g:AVal} {l:List (Sgt)} (p:Sgt→Bool) (hR:Rows encS h v l) (hg:∀ base x,x ∈ l→callL prog raw base g [.agg (encS.cells x)] h=some (.bool (p x),h)) :
  callL prog raw base (.fn 145 [] []) [v,g] h=some (.bool (l.any p),h):=by
 have hi:=fun base=>idxF_S (base:=base) p hR hg
 have h0:=idx_any p l
 refine callL_run func145 rfl rfl ?_
 have hsp:=@Nat.succ_ne_zero;repeat' (first|simp (disch:=first|exact dqb|fail) only [go_sem,hsp,hi]|refine WP_drw ?_|refine cnd_intro (fun hsp=>?_) fun hsp=>?_)
 refine fB ?_
 by_cases h1:l.any p=true
 ·rw [h1];simpa using h0.2 h1
 ·have h2:¬ 0≤idx p l:=fun h=>h1 (h0.1 h)
  simp only [Bool.not_eq_true] at h1
  rw [h1];simpa using h2
theorem not_S {base id:Nat} {h:Heap} {g:AVal} {x:Sgt} {b:Bool} (hid:h[id]?=some ⟨.cells [g] 162 false false,0⟩) (hg:∀ base T,callL prog raw base g [.agg (encS.cells x)] (h++T)=some (.bool b,h++T)) :
  callL prog raw base (.fn 146 [] [.ptr (some ⟨id,0,0⟩)]) [.agg (encS.cells x)] h=some (.bool (!b),h):=by
 have hgi:=lt_of_get hid
 simp only [encS] at hg ⊢
 refine callL_run func146 rfl rfl ?_
 have hsp:=@Nat.succ_ne_zero;repeat' (first|simp (disch:=first|exact dqb|fail) only [go_sem,hsp,hid,hg]|refine WP_drw ?_|refine cnd_intro (fun hsp=>?_) fun hsp=>?_)
 exact fB rfl
theorem every_S {base:Nat} {h:Heap} {v g:AVal} {l:List (Sgt)} (p:Sgt→Bool) (hR:Rows encS h v l) (hg:∀ base T x,x ∈ l→callL prog raw base g [.agg (encS.cells x)] (h++T)=some (.bool (p x),h++T)) (h1:One g) :
  callL prog raw base (.fn 100 [] []) [v,g] h=some (.bool (l.all p),h):=by
 have hc:=fun base=>anyF_S (base:=base) (fun x=>!p x) hR.app (fun base x hx=>not_S (x:=x) (get_eq rfl) (fun base T=>by have:=hg base ([⟨.cells [g] 162 false false,0⟩]++T) x hx;rwa [← List.append_assoc] at this))
 refine callL_run func100 rfl rfl ?_
 have hsp:=@Nat.succ_ne_zero;repeat' (first|simp (disch:=first|exact dqb|fail) only [go_sem,hsp,hc]|refine WP_drw ?_|refine cnd_intro (fun hsp=>?_) fun hsp=>?_)
 refine fB ?_
 rw [List.any_eq_not_all_not]
 simp
theorem idxF_B {base:Nat} {h:Heap} {v g:AVal} {l:List (Int × Int × Int)} (p:Int × Int × Int→Bool) (hR:Rows encB h v l) (hg:∀ base x,x ∈ l→callL prog raw base g [.agg (encB.cells x)] h=some (.bool (p x),h)) :
  callL prog raw base (.fn 141 [] []) [v,g] h=some (.int .i64 (idx p l),h):=by
 have hb:l.length<2 ^ 60:=hR.1
 refine callL_run func141 rfl rfl ?_
 have hsp:=@Nat.succ_ne_zero;repeat' (first|simp (disch:=first|exact dqb|fail) only [go_sem,hsp,hR.len Fc.el27]|refine WP_drw ?_|refine cnd_intro (fun hsp=>?_) fun hsp=>?_)
 refine WP_loop (fun σ=>∃ n:Nat,σ.fr 8=.int .i64 (n:Int)∧σ.fr 0=v∧σ.fr 1=g∧σ.fr 7=.int .i64 (l.length:Int)∧σ.h=h∧n≤l.length∧(∀ x ∈ l.take n,p x=false)) (fun σ=>match σ.fr 8 with|.int _ x=>(((l.length:Nat):Int)-x).toNat|_=>0) ?_ ?_
 ·refine ⟨0,?_,?_,?_,?_,?_,by omega,?_⟩
  iterate 5 focus (first|rfl|(simp (disch:=first|exact dqb|fail) only [go_sem,Int.natCast_zero];first|done|rfl))
  intro x hx;simp at hx
 ·rintro ⟨fr,hp⟩ ⟨n,r8,r0,r1,r7,rh,hi,hP⟩
  dsimp only at r8 r0 r1 r7 rh hi hP
  subst rh
  by_cases hn:n<l.length
  ·have hlt:((n:Int)<(l.length:Int))=True:=eq_true (by omega)
   have hx:l[n]?=some l[n]:=List.getElem?_eq_getElem hn
   have had:=hR.addr (i:=(n:Int)) Fc.el27 Fc.ar27 (by omega) (by omega)
   rw [Int.toNat_natCast] at had
   have hld:=hR.load Fc.ty38 hx
   have hc:=fun base=>hg base l[n] (List.getElem_mem hn)
   cases hp:p l[n] with
   | true =>
    rw [hp] at hc
    have hsp:=@Nat.succ_ne_zero;repeat' (first|simp (disch:=first|exact dqb|fail) only [go_sem,hsp,r8,r0,r1,r7,hlt,had,hld,hc]|refine WP_drw ?_|refine cnd_intro (fun hsp=>?_) fun hsp=>?_)
    rw [idx_hit p hn hP hp]
    all_goals (first|refine fI ?_|refine fB ?_|refine fII ?_ ?_|refine fBI ?_ ?_|refine fIII ?_ ?_ ?_|refine fIIB ?_ ?_ ?_|skip);all_goals (try dsimp only);all_goals (try with_reducible rfl);all_goals (try omega)
   | false =>
    rw [hp] at hc
    have hsp:=@Nat.succ_ne_zero;repeat' (first|simp (disch:=first|exact dqb|fail) only [go_sem,hsp,r8,r0,r1,r7,hlt,had,hld,hc]|refine WP_drw ?_|refine cnd_intro (fun hsp=>?_) fun hsp=>?_)
    exact ⟨⟨n+1,by simp,by omega,take_next p hn hP hp⟩,by omega⟩
  ·have hlt:((n:Int)<(l.length:Int))=False:=eq_false (by omega)
   obtain rfl:n=l.length:=by omega
   have hsp:=@Nat.succ_ne_zero;repeat' (first|simp (disch:=first|exact dqb|fail) only [go_sem,hsp,r8,r0,r1,r7,hlt]|refine WP_drw ?_|refine cnd_intro (fun hsp=>?_) fun hsp=>?_)
   rw [idx_miss p hP]
   all_goals (first|refine fI ?_|refine fB ?_|refine fII ?_ ?_|refine fBI ?_ ?_|refine fIII ?_ ?_ ?_|refine fIIB ?_ ?_ ?_|skip);all_goals (try dsimp only);all_goals (try with_reducible rfl);all_goals (try omega)
theorem anyF_B {base:Nat} {h:Heap} {v g:AVal} {l:List (Int × Int × Int)} (p:Int × Int × Int→Bool) (hR:Rows encB h v l) (hg:∀ base x,x ∈ l→callL prog raw base g [.agg (encB.cells x)] h=some (.bool (p x),h)) :
  callL prog raw base (.fn 90 [] []) [v,g] h=some (.bool (l.any p),h):=by
 have hi:=fun base=>idxF_B (base:=base) p hR hg
 have h0:=idx_any p l
 refine callL_run func90 rfl rfl ?_
 have hsp:=@Nat.succ_ne_zero;repeat' (first|simp (disch:=first|exact dqb|fail) only [go_sem,hsp,hi]|refine WP_drw ?_|refine cnd_intro (fun hsp=>?_) fun hsp=>?_)
 refine fB ?_
 by_cases h1:l.any p=true
 ·rw [h1];simpa using h0.2 h1
 ·have h2:¬ 0≤idx p l:=fun h=>h1 (h0.1 h)
  simp only [Bool.not_eq_true] at h1
  rw [h1];simpa using h2
theorem idxF_I {base:Nat} {h:Heap} {v g:AVal} {l:List (Int)} (p:Int→Bool) (hR:Ints h v l) (hg:∀ base x,x ∈ l→callL prog raw base g [.int .i64 x] h=some (.bool (p x),h)) :
  callL prog raw base (.fn 42 [] []) [v,g] h=some (.int .i64 (idx p l),h):=by
 have hb:l.length<2 ^ 60:=hR.1.1
 refine callL_run func42 rfl rfl ?_
 have hsp:=@Nat.succ_ne_zero;repeat' (first|simp (disch:=first|exact dqb|fail) only [go_sem,hsp,hR.len Fc.el32]|refine WP_drw ?_|refine cnd_intro (fun hsp=>?_) fun hsp=>?_)
 refine WP_loop (fun σ=>∃ n:Nat,σ.fr 8=.int .i64 (n:Int)∧σ.fr 0=v∧σ.fr 1=g∧σ.fr 7=.int .i64 (l.length:Int)∧σ.h=h∧n≤l.length∧(∀ x ∈ l.take n,p x=false)) (fun σ=>match σ.fr 8 with|.int _ x=>(((l.length:Nat):Int)-x).toNat|_=>0) ?_ ?_
 ·refine ⟨0,?_,?_,?_,?_,?_,by omega,?_⟩
  iterate 5 focus (first|rfl|(simp (disch:=first|exact dqb|fail) only [go_sem,Int.natCast_zero];first|done|rfl))
  intro x hx;simp at hx
 ·rintro ⟨fr,hp⟩ ⟨n,r8,r0,r1,r7,rh,hi,hP⟩
  dsimp only at r8 r0 r1 r7 rh hi hP
  subst rh
  by_cases hn:n<l.length
  ·have hlt:((n:Int)<(l.length:Int))=True:=eq_true (by omega)
   have hx:l[n]?=some l[n]:=List.getElem?_eq_getElem hn
   have had:=hR.addr (i:=(n:Int)) Fc.el32 Fc.ar32 (by omega) (by omega)
   rw [Int.toNat_natCast] at had
   have hld:=hR.load Fc.ty3 hx
   have hc:=fun base=>hg base l[n] (List.getElem_mem hn)
   cases hp:p l[n] with
   | true =>
    rw [hp] at hc
    have hsp:=@Nat.succ_ne_zero;repeat' (first|simp (disch:=first|exact dqb|fail) only [go_sem,hsp,r8,r0,r1,r7,hlt,had,hld,hc]|refine WP_drw ?_|refine cnd_intro (fun hsp=>?_) fun hsp=>?_)
    rw [idx_hit p hn hP hp]
    all_goals (first|refine fI ?_|refine fB ?_|refine fII ?_ ?_|refine fBI ?_ ?_|refine fIII ?_ ?_ ?_|refine fIIB ?_ ?_ ?_|skip);all_goals (try dsimp only);all_goals (try with_reducible rfl);all_goals (try omega)
   | false =>
    rw [hp] at hc
    have hsp:=@Nat.succ_ne_zero;repeat' (first|simp (disch:=first|exact dqb|fail) only [go_sem,hsp,r8,r0,r1,r7,hlt,had,hld,hc]|refine WP_drw ?_|refine cnd_intro (fun hsp=>?_) fun hsp=>?_)
    exact ⟨⟨n+1,by simp,by omega,take_next p hn hP hp⟩,by omega⟩
  ·have hlt:((n:Int)<(l.length:Int))=False:=eq_false (by omega)
   obtain rfl:n=l.length:=by omega
   have hsp:=@Nat.succ_ne_zero;repeat' (first|simp (disch:=first|exact dqb|fail) only [go_sem,hsp,r8,r0,r1,r7,hlt]|refine WP_drw ?_|refine cnd_intro (fun hsp=>?_) fun hsp=>?_)
   rw [idx_miss p hP]
   all_goals (first|refine fI ?_|refine fB ?_|refine fII ?_ ?_|refine fBI ?_ ?_|refine fIII ?_ ?_ ?_|refine fIIB ?_ ?_ ?_|skip);all_goals (try dsimp only);all_goals (try with_reducible rfl);all_goals (try omega)
theorem anyF_I {base:Nat} {h:Heap} {v g:AVal} {l:List (Int)} (p:Int→Bool) (hR:Ints h v l) (hg:∀ base x,x ∈ l→callL prog raw base g [.int .i64 x] h=some (.bool (p x),h)) :
  callL prog raw base (.fn 14 [] []) [v,g] h=some (.bool (l.any p),h):=by
 have hi:=fun base=>idxF_I (base:=base) p hR hg
 have h0:=idx_any p l
 refine callL_run func14 rfl rfl ?_
 have hsp:=@Nat.succ_ne_zero;repeat' (first|simp (disch:=first|exact dqb|fail) only [go_sem,hsp,hi]|refine WP_drw ?_|refine cnd_intro (fun hsp=>?_) fun hsp=>?_)
 refine fB ?_
 by_cases h1:l.any p=true
 ·rw [h1];simpa using h0.2 h1
 ·have h2:¬ 0≤idx p l:=fun h=>h1 (h0.1 h)
  simp only [Bool.not_eq_true] at h1
  rw [h1];simpa using h2
theorem not_I {base id:Nat} {h:Heap} {g:AVal} {x:Int} {b:Bool} (hid:h[id]?=some ⟨.cells [g] 61 false false,0⟩) (hg:∀ base T,callL prog raw base g [.int .i64 x] (h++T)=some (.bool b,h++T)) :
  callL prog raw base (.fn 144 [] [.ptr (some ⟨id,0,0⟩)]) [.int .i64 x] h=some (.bool (!b),h):=by
 have hgi:=lt_of_get hid
 have hg0:∀ base,callL prog raw base g [.int .i64 x] h=some (.bool b,h):=fun base=>by have:=hg base [];rwa [List.append_nil] at this
 refine callL_run func144 rfl rfl ?_
 have hsp:=@Nat.succ_ne_zero;repeat' (first|simp (disch:=first|exact dqb|fail) only [go_sem,hsp,hid,hg,hg0]|refine WP_drw ?_|refine cnd_intro (fun hsp=>?_) fun hsp=>?_)
 exact fB rfl
theorem every_I {base:Nat} {h:Heap} {v g:AVal} {l:List (Int)} (p:Int→Bool) (hR:Ints h v l) (hg:∀ base T x,x ∈ l→callL prog raw base g [.int .i64 x] (h++T)=some (.bool (p x),h++T)) (h1:One g) :
  callL prog raw base (.fn 99 [] []) [v,g] h=some (.bool (l.all p),h):=by
 have hc:=fun base=>anyF_I (base:=base) (fun x=>!p x) hR.app (fun base x hx=>not_I (x:=x) (get_eq rfl) (fun base T=>by have:=hg base ([⟨.cells [g] 61 false false,0⟩]++T) x hx;rwa [← List.append_assoc] at this))
 refine callL_run func99 rfl rfl ?_
 have hsp:=@Nat.succ_ne_zero;repeat' (first|simp (disch:=first|exact dqb|fail) only [go_sem,hsp,hc]|refine WP_drw ?_|refine cnd_intro (fun hsp=>?_) fun hsp=>?_)
 refine fB ?_
 rw [List.any_eq_not_all_not]
 simp
abbrev lomV (R T:Int) (pv sv:AVal):AVal:=.agg [.int .i64 R,.int .i64 T,pv,sv]
theorem run_in {base:Nat} {h:Heap} {n lo hi:Int}:callL prog raw base (.fn 94 [] []) [.int .i64 n,.int .i64 lo,.int .i64 hi] h=some (.bool (decide (lo≤n∧n≤hi)),h):=by
 refine callL_run func94 rfl rfl ?_
 by_cases h1:lo≤n
 ·have t1:(n ≥ lo)=True:=eq_true h1
  have hsp:=@Nat.succ_ne_zero;repeat' (first|simp (disch:=first|exact dqb|fail) only [go_sem,hsp,t1]|refine WP_drw ?_|refine cnd_intro (fun hsp=>?_) fun hsp=>?_)
  refine fB ?_
  simp [h1]
 ·have t1:(n ≥ lo)=False:=eq_false h1
  have hsp:=@Nat.succ_ne_zero;repeat' (first|simp (disch:=first|exact dqb|fail) only [go_sem,hsp,t1]|refine WP_drw ?_|refine cnd_intro (fun hsp=>?_) fun hsp=>?_)
  refine fB ?_
  simp [h1]
attribute [go_sem] run_in
theorem run_ribbon {base:Nat} {h:Heap} {R T n:Int} {pv sv:AVal} (hR:-1000≤R∧R≤1000):callL prog raw base (.fn 93 [] []) [lomV R T pv sv,.int .i64 n] h=some (.bool (decide (0≤n∧n≤R-1)),h):=by
 refine callL_run func93 rfl rfl ?_
 have hsp:=@Nat.succ_ne_zero;repeat' (first|simp (disch:=first|exact dqb|fail) only [go_sem,hsp]|refine WP_drw ?_|refine cnd_intro (fun hsp=>?_) fun hsp=>?_)
 exact fB rfl
theorem run_ribbon' {base:Nat} {h:Heap} {R T n:Int} {pv sv:AVal} (hR:-1000≤R∧R≤1000):callL prog raw base (.fn 93 [lomV R T pv sv] []) [.int .i64 n] h=some (.bool (decide (0≤n∧n≤R-1)),h):=by
 refine callL_run func93 rfl rfl ?_
 have hsp:=@Nat.succ_ne_zero;repeat' (first|simp (disch:=first|exact dqb|fail) only [go_sem,hsp]|refine WP_drw ?_|refine cnd_intro (fun hsp=>?_) fun hsp=>?_)
 exact fB rfl
theorem run_throw {base:Nat} {h:Heap} {R T n:Int} {pv sv:AVal} (hT:-1000≤T∧T≤1000):callL prog raw base (.fn 102 [] []) [lomV R T pv sv,.int .i64 n] h=some (.bool (decide (0≤n∧n≤T-1)),h):=by
 refine callL_run func102 rfl rfl ?_
 have hsp:=@Nat.succ_ne_zero;repeat' (first|simp (disch:=first|exact dqb|fail) only [go_sem,hsp]|refine WP_drw ?_|refine cnd_intro (fun hsp=>?_) fun hsp=>?_)
 exact fB rfl
attribute [go_sem] run_ribbon run_ribbon' run_throw
theorem run_chk1 {base:Nat} {h:Heap} {p:PrtV} {l:List Int} (hI:Ints h p.v l):callL prog raw base (.fn 96 [] []) [.agg (encP.cells p)] h=some (.bool (decide (0<l.length)),h):=by
 have hn:=norm_one hI.one
 have hl:=hI.1.1
 simp only [encP,hn]
 refine callL_run func96 rfl rfl ?_
 have hsp:=@Nat.succ_ne_zero;repeat' (first|simp (disch:=first|exact dqb|fail) only [go_sem,hsp]|refine WP_drw ?_|refine cnd_intro (fun hsp=>?_) fun hsp=>?_)
 refine fB (dec_eq ?_)
 omega
theorem run_chk2 {base:Nat} {h:Heap} {p:PrtV} (_hp:p.each≤p.each):callL prog raw base (.fn 97 [] []) [.agg (encP.cells p)] h=some (.bool (decide ((1≤p.each∧p.each≤4)∧(0≤p.ph∧p.ph≤p.each-1))),h):=by
 simp only [encP]
 refine callL_run func97 rfl rfl ?_
 by_cases h1:1≤p.each∧p.each≤4
 ·have t1:(1≤p.each∧p.each≤4)=True:=eq_true h1
  have hsp:=@Nat.succ_ne_zero;repeat' (first|simp (disch:=first|exact dqb|fail) only [go_sem,hsp,t1]|refine WP_drw ?_|refine cnd_intro (fun hsp=>?_) fun hsp=>?_)
  refine fB ?_
  simp [h1]
 ·have t1:(1≤p.each∧p.each≤4)=False:=eq_false h1
  have hsp:=@Nat.succ_ne_zero;repeat' (first|simp (disch:=first|exact dqb|fail) only [go_sem,hsp,t1]|refine WP_drw ?_|refine cnd_intro (fun hsp=>?_) fun hsp=>?_)
  refine fB ?_
  simp [h1]
theorem run_chk6 {base:Nat} {h:Heap} {s:Sgt}:callL prog raw base (.fn 105 [] []) [.agg (encS.cells s)] h=some (.bool (decide (s.lo≤s.hi)),h):=by
 simp only [encS]
 refine callL_run func105 rfl rfl ?_
 have hsp:=@Nat.succ_ne_zero;repeat' (first|simp (disch:=first|exact dqb|fail) only [go_sem,hsp]|refine WP_drw ?_|refine cnd_intro (fun hsp=>?_) fun hsp=>?_)
 exact fB rfl
theorem run_rising {base:Nat} {h:Heap} {v:AVal} {l:List Int} (hI:Ints h v l) (hs:Small l):callL prog raw base (.fn 104 [] []) [v] h=some (.bool (riseB l),h):=by
 have hc:=fun base=>run_clone (base:=base) hI hs
 refine callL_run func104 rfl rfl ?_
 cases hso:sortB l with
 | false =>
  have hr:riseB l=false:=by
   unfold sortB at hso
   refine decide_eq_false fun hh=>of_decide_eq_false hso fun i h1 h2=>?_
   have:=hh i h1 h2
   omega
  have hsp:=@Nat.succ_ne_zero;repeat' (first|simp (disch:=first|exact dqb|fail) only [go_sem,hsp,hso]|refine WP_drw ?_|refine cnd_intro (fun hsp=>?_) fun hsp=>?_)
  exact fB hr.symm
 | true =>
  have hso2:=of_decide_eq_true hso
  have key:nodup l ↔ riseB l=true:=by
   unfold riseB nodup
   rw [decide_eq_true_iff]
   exact ⟨fun hd i h1 h2=>by have:=hd i h1 h2;have:=hso2 i h1 h2;omega,fun hh i h1 h2=>by have:=hh i h1 h2;omega⟩
  by_cases hz:nilB v=true ∨ l=[]
  ·have hl0:l=[]:=hz.elim (fun hn=>(hI.nilB_nil hn).2) id
   subst hl0
   have hic:Ints h (cloneV v h.length []) []:=by have:=cloneV_ints hI hs;simpa [cloneH,newH_nil] using this
   obtain ⟨cv,CH,ce,hv1,hv2⟩:=run_compact0 (base:=h.length) hic (by simp)
   rw [hv1,hv2] at ce
   have hce:h++cloneH v []=h:=by simp [cloneH,newH_nil]
   rw [hce] at hc
   have hrz:riseB []=true:=rfl
   have hsp:=@Nat.succ_ne_zero;repeat' (first|simp (disch:=first|exact dqb|fail) only [go_sem,hsp,hso,hc,ce,lenI hic,lenI hI,List.length_nil,Int.natCast_zero]|refine WP_drw ?_|refine cnd_intro (fun hsp=>?_) fun hsp=>?_)
   exact fB hrz.symm
  ·have hne:l ≠ []:=fun e=>hz (.inr e)
   have hnb:nilB v=false:=by simpa using fun e=>hz (.inl e)
   have e1:∀ n,cloneV v n l=.slice (some ⟨n,0,0⟩) l.length l.length:=fun n=>by rw [cloneV,if_neg (by simp [hnb]),newV_ne hne]
   have e2:cloneH v l=[rowB l 0]:=by rw [cloneH,if_neg (by simp [hnb]),newH_ne hne]
   rw [e1,e2] at hc
   obtain ⟨cv,CH,ce,k,m,rfl,rfl,hm,hk,hiff⟩:=run_compact (base:=h.length) (h:=h++[rowB l 0]) (id:=h.length) (get_eq rfl) hs
   have hIm:Ints ((h++[rowB l 0]).set h.length (rowB m 0)) v l:=by rw [set_eq rfl];exact hI.app
   have hsp:=@Nat.succ_ne_zero;repeat' (first|simp (disch:=first|exact dqb|fail) only [go_sem,hsp,hso,hc,ce,Fc.ln32,lenI hIm]|refine WP_drw ?_|refine cnd_intro (fun hsp=>?_) fun hsp=>?_)
   refine fB ?_ ?_
   ·by_cases hd:nodup l
    ·rw [key.1 hd]
     have:=hiff.2 hd
     first|exact decide_eq_true (by omega)|(simp;omega)
    ·have hf:riseB l=false:=by cases hb:riseB l with|false=>rfl|true=>exact absurd (key.2 hb) hd
     rw [hf]
     have:¬ k=l.length:=fun e=>hd (hiff.1 e)
     first|exact decide_eq_false (by omega)|(simp;omega)
   ·first|exact Ext.app .refl|(rw [set_eq rfl];exact Ext.app .refl)|exact Ext.set (Ext.app .refl) (Nat.le_refl _)
attribute [go_sem] run_rising
theorem ints_inj:∀ {l m:List Int},ints l=ints m→l=m
 | [],[],_=>rfl
 | [],_ :: _,h=>by cases h
 | _ :: _,[],h=>by cases h
 | x :: l,y :: m,h=>by
  have h1:AVal.int .i64 x=.int .i64 y∧ints l=ints m:=List.cons.inj h
  have h2:x=y:=by have:=h1.1;injection this
  rw [h2,ints_inj h1.2]
end Flt
theorem Ints.uniq {h:Heap} {v:AVal} {l m:List Int} (a:Ints h v l) (b:Ints h v m):l=m:=by
 rcases a.2 with ⟨rfl,rfl⟩|⟨rfl,rfl⟩|⟨r,k,c,e,row,ro,rfl,h1,h2,_⟩
 ·rcases b.2 with ⟨_,rfl⟩|⟨hc,_⟩|⟨r,k,c,e,row,ro,hc,_⟩
  ·rfl
  ·cases hc
  ·cases hc
 ·rcases b.2 with ⟨hc,_⟩|⟨_,rfl⟩|⟨r,k,c,e,row,ro,hc,_⟩
  ·cases hc
  ·rfl
  ·cases hc
 ·rcases b.2 with ⟨hc,_⟩|⟨hc,_⟩|⟨r',k',c',e',row',ro',hc,g1,g2,_⟩
  ·cases hc
  ·cases hc
  ·simp only [AVal.slice.injEq,Option.some.injEq] at hc
   obtain ⟨rfl,hlen,_⟩:=hc
   rw [h1] at g1
   cases g1
   refine Flt.ints_inj ?_
   rw [← h2,← g2,hlen]
namespace Flt
open Classical in
noncomputable def rbOf (h:Heap) (x:PrtV):List Int:=if hx:∃ l,Ints h x.v l then Classical.choose hx else []
theorem rbOf_eq {h:Heap} {x:PrtV} {l:List Int} (a:Ints h x.v l):rbOf h x=l:=by
 have hx:∃ l,Ints h x.v l:=⟨l,a⟩
 unfold rbOf
 rw [dif_pos hx]
 exact (Classical.choose_spec hx).uniq a
noncomputable def toPrt (h:Heap) (x:PrtV):Prt:=⟨rbOf h x,x.each,x.ph,x.wv⟩
theorem Parts.map {h:Heap} {ps:List Prt} {vs:List PrtV} (h2:vs.length=ps.length) (h3:∀ (i:Nat) x p,vs[i]?=some x→ps[i]?=some p→Ints h x.v p.rib∧x.each=p.each∧x.ph=p.ph∧x.wv=p.wv):vs.map (toPrt h)=ps∧∀ x ∈ vs,Ints h x.v (toPrt h x).rib:=by
 have key:∀ (i:Nat) x p,vs[i]?=some x→ps[i]?=some p→toPrt h x=p∧Ints h x.v (toPrt h x).rib:=fun i x p a b=>by
  obtain ⟨q1,q2,q3,q4⟩:=h3 i x p a b
  have e:=rbOf_eq q1
  refine ⟨?_,by show Ints h x.v (rbOf h x);rw [e];exact q1⟩
  unfold toPrt
  rw [e,q2,q3,q4]
 refine ⟨List.ext_getElem (by rw [List.length_map,h2]) fun i a b=>?_,fun x hx=>?_⟩
 ·rw [List.getElem_map]
  have a':i<vs.length:=by simpa using a
  exact (key i _ _ (List.getElem?_eq_getElem a') (List.getElem?_eq_getElem b)).1
 ·obtain ⟨i,hi,rfl⟩:=List.getElem_of_mem hx
  exact (key i _ _ (List.getElem?_eq_getElem hi) (List.getElem?_eq_getElem (by omega))).2
def chkM (L:Lom):Int :=
 if ¬ (1≤L.R∧L.R≤6) ∨ ¬ (1≤L.T∧L.T≤12) ∨ ¬ (1≤(L.ps.length:Int)∧(L.ps.length:Int)≤6) ∨ (L.ss.length:Int) > 10 ∨ ¬ (L.ps.all fun p=>decide (0<p.rib.length))=true then 2 else
 if ¬ (L.ps.all fun p=>decide ((1≤p.each∧p.each≤4)∧(0≤p.ph∧p.ph≤p.each-1)))=true then 3 else
 if ¬ (L.ps.all fun p=>p.rib.all fun r=>decide (0≤r∧r≤L.R-1))=true ∨ ¬ (L.ss.all fun s=>decide ((0≤s.rib∧s.rib≤L.R-1)∧(0≤s.lo∧s.lo≤L.T-1)∧(0≤s.hi∧s.hi≤L.T-1)))=true then 1 else
 if ¬ (L.ps.all fun p=>riseB p.rib)=true ∨ ¬ (L.ss.all fun s=>decide (s.lo≤s.hi))=true then 4 else 0
theorem run_chk5 {base:Nat} {h:Heap} {p:PrtV} {l:List Int} (hI:Ints h p.v l) (hs:Small l):callL prog raw base (.fn 103 [] []) [.agg (encP.cells p)] h=some (.bool (riseB l),h):=by
 have hn:=norm_one hI.one
 simp only [encP,hn]
 refine callL_run func103 rfl rfl ?_
 have hsp:=@Nat.succ_ne_zero;repeat' (first|simp (disch:=first|exact dqb|fail) only [go_sem,hsp]|refine WP_drw ?_|refine cnd_intro (fun hsp=>?_) fun hsp=>?_)
 exact fB rfl
theorem run_chk3 {base id:Nat} {h:Heap} {p:PrtV} {l:List Int} {R T:Int} {pv sv:AVal} (hI:Ints h p.v l) (hR:-1000≤R∧R≤1000) (hid:h[id]?=some ⟨.cells [.fn 93 [lomV R T pv sv] []] 61 false false,0⟩):callL prog raw base (.fn 98 [] [.ptr (some ⟨id,0,0⟩)]) [.agg (encP.cells p)] h=some (.bool (l.all fun r=>decide (0≤r∧r≤R-1)),h):=by
 have hn:=norm_one hI.one
 have hlt:=lt_of_get hid
 simp only [encP,hn]
 have he:∀ {base:Nat} {T':Heap},callL prog raw base (.fn 99 [] []) [p.v,.fn 93 [lomV R T pv sv] []] (h++T')=some (.bool (l.all fun r=>decide (0≤r∧r≤R-1)),h++T'):=fun {base T'}=>every_I _ hI.app (fun base T x _=>run_ribbon' hR) ⟨rfl,rfl,rfl⟩
 refine callL_run func98 rfl rfl ?_
 have hsp:=@Nat.succ_ne_zero;repeat' (first|simp (disch:=first|exact dqb|fail) only [go_sem,hsp,hid,he]|refine WP_drw ?_|refine cnd_intro (fun hsp=>?_) fun hsp=>?_)
 exact fB rfl
theorem run_chk4 {base id id2:Nat} {h:Heap} {s:Sgt} {R T R' T':Int} {pv sv pv' sv':AVal} (hR:-1000≤R∧R≤1000) (hT:-1000≤T'∧T'≤1000) (hid:h[id]?=some ⟨.cells [.fn 93 [lomV R T pv sv] []] 61 false false,0⟩)
  (hid2:h[id2]?=some ⟨.cells [.int .i64 R',.int .i64 T',pv',sv'] 26 false false,0⟩):callL prog raw base (.fn 101 [] [.ptr (some ⟨id,0,0⟩),.ptr (some ⟨id2,0,0⟩)]) [.agg (encS.cells s)] h=some (.bool (decide ((0≤s.rib∧s.rib≤R-1)∧(0≤s.lo∧s.lo≤T'-1)∧(0≤s.hi∧s.hi≤T'-1))),h):=by
 have hlt:=lt_of_get hid
 have hlt2:=lt_of_get hid2
 simp only [encS]
 refine callL_run func101 rfl rfl ?_
 by_cases h1:0≤s.rib∧s.rib≤R-1
 ·have t1:(0≤s.rib∧s.rib≤R-1)=True:=eq_true h1
  by_cases h2:0≤s.lo∧s.lo≤T'-1
  ·have t2:(0≤s.lo∧s.lo≤T'-1)=True:=eq_true h2
   have hsp:=@Nat.succ_ne_zero;repeat' (first|simp (disch:=first|exact dqb|fail) only [go_sem,hsp,hid,hid2,t1,t2]|refine WP_drw ?_|refine cnd_intro (fun hsp=>?_) fun hsp=>?_)
   refine fB ?_
   simp [h1,h2]
  ·have t2:(0≤s.lo∧s.lo≤T'-1)=False:=eq_false h2
   have hsp:=@Nat.succ_ne_zero;repeat' (first|simp (disch:=first|exact dqb|fail) only [go_sem,hsp,hid,hid2,t1,t2]|refine WP_drw ?_|refine cnd_intro (fun hsp=>?_) fun hsp=>?_)
   refine fB ?_
   simp [h1,h2]
 ·have t1:(0≤s.rib∧s.rib≤R-1)=False:=eq_false h1
  have hsp:=@Nat.succ_ne_zero;repeat' (first|simp (disch:=first|exact dqb|fail) only [go_sem,hsp,hid,hid2,t1]|refine WP_drw ?_|refine cnd_intro (fun hsp=>?_) fun hsp=>?_)
  refine fB ?_
  simp [h1]
theorem run_check {base:Nat} {h:Heap} {v:AVal} {L:Lom} (hL:LomAt h v L) (hsm:∀ p ∈ L.ps,Small p.rib) (hpl:L.ps.length≤1048576) (hsl:L.ss.length≤1048576) (hea:∀ p ∈ L.ps,p.each≤p.each) :
  callL prog raw base (.fn 33 [] []) [v] h=some (.int .i64 (chkM L),h):=by
 obtain ⟨pv,sv,rfl,⟨vs,hR,h2,h3⟩,hS⟩:=hL
 obtain ⟨hmap,hri⟩:=Parts.map h2 h3
 have hmem:∀ x ∈ vs,toPrt h x ∈ L.ps:=fun x hx=>by rw [← hmap];exact List.mem_map_of_mem hx
 obtain ⟨T1,eT1⟩:∃ T1:Heap,T1=[⟨.cells [.int .i64 L.R,.int .i64 L.T,pv,sv] 26 false false,0⟩]++[⟨.cells [.fn 93 [lomV L.R L.T pv sv] []] 61 false false,0⟩]:=⟨_,rfl⟩
 have eH:h++[⟨.cells [.int .i64 L.R,.int .i64 L.T,pv,sv] 26 false false,0⟩]++[⟨.cells [.fn 93 [lomV L.R L.T pv sv] []] 61 false false,0⟩]=h++T1:=by rw [eT1,List.append_assoc]
 have g0:(h++T1)[h.length]?=some ⟨.cells [.int .i64 L.R,.int .i64 L.T,pv,sv] 26 false false,0⟩:=by rw [← eH];exact get_app (get_eq rfl)
 have g1:(h++T1)[h.length+1]?=some ⟨.cells [.fn 93 [lomV L.R L.T pv sv] []] 61 false false,0⟩:=by rw [← eH];exact get_eq (by simp)
 have e1:∀ {base:Nat},callL prog raw base (.fn 95 [] []) [pv,.fn 96 [] []] (h++T1)=some (.bool (L.ps.all fun p=>decide (0<p.rib.length)),h++T1):=fun {base}=>by
  rw [← hmap,List.all_map]
  exact every_P _ hR.app (fun base T x hx=>run_chk1 (hri x hx).app.app) ⟨rfl,rfl,rfl⟩
 have e2:∀ {base:Nat},callL prog raw base (.fn 95 [] []) [pv,.fn 97 [] []] (h++T1)=some (.bool (L.ps.all fun p=>decide ((1≤p.each∧p.each≤4)∧(0≤p.ph∧p.ph≤p.each-1))),h++T1):=fun {base}=>by
  rw [← hmap,List.all_map]
  exact every_P _ hR.app (fun base T x hx=>run_chk2 (hea _ (hmem x hx))) ⟨rfl,rfl,rfl⟩
 have e5:∀ {base:Nat},callL prog raw base (.fn 95 [] []) [pv,.fn 103 [] []] (h++T1)=some (.bool (L.ps.all fun p=>riseB p.rib),h++T1):=fun {base}=>by
  rw [← hmap,List.all_map]
  exact every_P _ hR.app (fun base T x hx=>run_chk5 (hri x hx).app.app (hsm _ (hmem x hx))) ⟨rfl,rfl,rfl⟩
 have e6:∀ {base:Nat},callL prog raw base (.fn 100 [] []) [sv,.fn 105 [] []] (h++T1)=some (.bool (L.ss.all fun s=>decide (s.lo≤s.hi)),h++T1):=fun {base} =>
  every_S _ hS.app (fun base T x hx=>run_chk6) ⟨rfl,rfl,rfl⟩
 have hlp:=(hR.app (T:=T1)).len (P:=prog) Fc.el23
 have hls:=(hS.app (T:=T1)).len (P:=prog) Fc.el24
 rw [h2] at hlp
 have hop:=hR.one
 have hos:=hS.one
 refine callL_run func33 rfl rfl ?_
 by_cases c1:1≤L.R∧L.R≤6
 ·have t1:(1≤L.R∧L.R≤6)=True:=eq_true c1
  by_cases c2:1≤L.T∧L.T≤12
  ·have t2:(1≤L.T∧L.T≤12)=True:=eq_true c2
   by_cases c3:1≤(L.ps.length:Int)∧(L.ps.length:Int)≤6
   ·have t3:(1≤(L.ps.length:Int)∧(L.ps.length:Int)≤6)=True:=eq_true c3
    by_cases c4:(L.ss.length:Int) > 10
    ·have t4:((L.ss.length:Int) > 10)=True:=eq_true c4
     have r:chkM L=2:=by unfold chkM;rw [if_pos (.inr (.inr (.inr (.inl c4))))]
     rw [r]
     have hsp:=@Nat.succ_ne_zero;repeat' (first|simp (disch:=first|exact dqb|fail) only [go_sem,hsp,t1,t2,t3,t4,eH,g0,g1,hlp,hls]|refine WP_drw ?_|refine cnd_intro (fun hsp=>?_) fun hsp=>?_)
     exact fI rfl
    ·have t4:((L.ss.length:Int) > 10)=False:=eq_false c4
     have e3:∀ {base:Nat},callL prog raw base (.fn 95 [] []) [pv,.fn 98 [] [.ptr (some ⟨h.length+1,0,0⟩)]] (h++T1)=some (.bool (L.ps.all fun p=>p.rib.all fun r=>decide (0≤r∧r≤L.R-1)),h++T1):=fun {base}=>by
      rw [← hmap,List.all_map]
      exact every_P _ hR.app (fun base T x hx=>run_chk3 (hri x hx).app.app (by omega) (get_app g1)) ⟨rfl,rfl,rfl⟩
     have e4:∀ {base:Nat},callL prog raw base (.fn 100 [] []) [sv,.fn 101 [] [.ptr (some ⟨h.length+1,0,0⟩),.ptr (some ⟨h.length,0,0⟩)]] (h++T1)=some (.bool (L.ss.all fun s=>decide ((0≤s.rib∧s.rib≤L.R-1)∧(0≤s.lo∧s.lo≤L.T-1)∧(0≤s.hi∧s.hi≤L.T-1))),h++T1):=fun {base} =>
      every_S _ hS.app (fun base T x hx=>run_chk4 (by omega) (by omega) (get_app g1) (get_app g0)) ⟨rfl,rfl,rfl⟩
     have n0:¬ (¬ (1≤L.R∧L.R≤6) ∨ ¬ (1≤L.T∧L.T≤12) ∨ ¬ (1≤(L.ps.length:Int)∧(L.ps.length:Int)≤6) ∨ (L.ss.length:Int) > 10 ∨ ¬ (L.ps.all fun p=>decide (0<p.rib.length))=true) ↔ (L.ps.all fun p=>decide (0<p.rib.length))=true:=by
      constructor
      ·exact fun hh=>Classical.byContradiction fun hn=>hh (.inr (.inr (.inr (.inr hn))))
      ·rintro hb (q|q|q|q|q)
       ·exact q c1
       ·exact q c2
       ·exact q c3
       ·exact c4 q
       ·exact q hb
     cases b1:(L.ps.all fun p=>decide (0<p.rib.length)) with
     | false =>
      have r:chkM L=2:=by unfold chkM;rw [if_pos (.inr (.inr (.inr (.inr (by rw [b1];decide)))))]
      rw [b1] at e1
      rw [r]
      have hsp:=@Nat.succ_ne_zero;repeat' (first|simp (disch:=first|exact dqb|fail) only [go_sem,hsp,t1,t2,t3,t4,eH,g0,g1,hlp,hls,e1]|refine WP_drw ?_|refine cnd_intro (fun hsp=>?_) fun hsp=>?_)
      exact fI rfl
     | true =>
      rw [b1] at e1
      cases b2:(L.ps.all fun p=>decide ((1≤p.each∧p.each≤4)∧(0≤p.ph∧p.ph≤p.each-1))) with
      | false =>
       have r:chkM L=3:=by unfold chkM;rw [if_neg (n0.2 b1),if_pos (by rw [b2];decide)]
       rw [b2] at e2
       rw [r]
       have hsp:=@Nat.succ_ne_zero;repeat' (first|simp (disch:=first|exact dqb|fail) only [go_sem,hsp,t1,t2,t3,t4,eH,g0,g1,hlp,hls,e1,e2]|refine WP_drw ?_|refine cnd_intro (fun hsp=>?_) fun hsp=>?_)
       exact fI rfl
      | true =>
       rw [b2] at e2
       cases b3:(L.ps.all fun p=>p.rib.all fun r=>decide (0≤r∧r≤L.R-1)) with
       | false =>
        have r:chkM L=1:=by unfold chkM;rw [if_neg (n0.2 b1),if_neg (by rw [b2];decide),if_pos (.inl (by rw [b3];decide))]
        rw [b3] at e3
        rw [r]
        have hsp:=@Nat.succ_ne_zero;repeat' (first|simp (disch:=first|exact dqb|fail) only [go_sem,hsp,t1,t2,t3,t4,eH,g0,g1,hlp,hls,e1,e2,e3]|refine WP_drw ?_|refine cnd_intro (fun hsp=>?_) fun hsp=>?_)
        exact fI rfl
       | true =>
        rw [b3] at e3
        cases b4:(L.ss.all fun s=>decide ((0≤s.rib∧s.rib≤L.R-1)∧(0≤s.lo∧s.lo≤L.T-1)∧(0≤s.hi∧s.hi≤L.T-1))) with
        | false =>
         have r:chkM L=1:=by unfold chkM;rw [if_neg (n0.2 b1),if_neg (by rw [b2];decide),if_pos (.inr (by rw [b4];decide))]
         rw [b4] at e4
         rw [r]
         have hsp:=@Nat.succ_ne_zero;repeat' (first|simp (disch:=first|exact dqb|fail) only [go_sem,hsp,t1,t2,t3,t4,eH,g0,g1,hlp,hls,e1,e2,e3,e4]|refine WP_drw ?_|refine cnd_intro (fun hsp=>?_) fun hsp=>?_)
         exact fI rfl
        | true =>
         rw [b4] at e4
         cases b5:(L.ps.all fun p=>riseB p.rib) with
         | false =>
          have r:chkM L=4:=by unfold chkM;rw [if_neg (n0.2 b1),if_neg (by rw [b2];decide),if_neg (by rw [b3,b4];decide),if_pos (.inl (by rw [b5];decide))]
          rw [b5] at e5
          rw [r]
          have hsp:=@Nat.succ_ne_zero;repeat' (first|simp (disch:=first|exact dqb|fail) only [go_sem,hsp,t1,t2,t3,t4,eH,g0,g1,hlp,hls,e1,e2,e3,e4,e5]|refine WP_drw ?_|refine cnd_intro (fun hsp=>?_) fun hsp=>?_)
          exact fI rfl
         | true =>
          rw [b5] at e5
          cases b6:(L.ss.all fun s=>decide (s.lo≤s.hi)) with
          | false =>
           have r:chkM L=4:=by unfold chkM;rw [if_neg (n0.2 b1),if_neg (by rw [b2];decide),if_neg (by rw [b3,b4];decide),if_pos (.inr (by rw [b6];decide))]
           rw [b6] at e6
           rw [r]
           have hsp:=@Nat.succ_ne_zero;repeat' (first|simp (disch:=first|exact dqb|fail) only [go_sem,hsp,t1,t2,t3,t4,eH,g0,g1,hlp,hls,e1,e2,e3,e4,e5,e6]|refine WP_drw ?_|refine cnd_intro (fun hsp=>?_) fun hsp=>?_)
           exact fI rfl
          | true =>
           rw [b6] at e6
           have r:chkM L=0:=by unfold chkM;rw [if_neg (n0.2 b1),if_neg (by rw [b2];decide),if_neg (by rw [b3,b4];decide),if_neg (by rw [b5,b6];decide)]
           rw [r]
           have hsp:=@Nat.succ_ne_zero;repeat' (first|simp (disch:=first|exact dqb|fail) only [go_sem,hsp,t1,t2,t3,t4,eH,g0,g1,hlp,hls,e1,e2,e3,e4,e5,e6]|refine WP_drw ?_|refine cnd_intro (fun hsp=>?_) fun hsp=>?_)
           exact fI rfl
   ·have t3:(1≤(L.ps.length:Int)∧(L.ps.length:Int)≤6)=False:=eq_false c3
    have r:chkM L=2:=by unfold chkM;rw [if_pos (.inr (.inr (.inl c3)))]
    rw [r]
    have hsp:=@Nat.succ_ne_zero;repeat' (first|simp (disch:=first|exact dqb|fail) only [go_sem,hsp,t1,t2,t3,eH,g0,g1,hlp,hls]|refine WP_drw ?_|refine cnd_intro (fun hsp=>?_) fun hsp=>?_)
    exact fI rfl
  ·have t2:(1≤L.T∧L.T≤12)=False:=eq_false c2
   have r:chkM L=2:=by unfold chkM;rw [if_pos (.inr (.inl c2))]
   rw [r]
   have hsp:=@Nat.succ_ne_zero;repeat' (first|simp (disch:=first|exact dqb|fail) only [go_sem,hsp,t1,t2,eH,g0,g1]|refine WP_drw ?_|refine cnd_intro (fun hsp=>?_) fun hsp=>?_)
   exact fI rfl
 ·have t1:(1≤L.R∧L.R≤6)=False:=eq_false c1
  have r:chkM L=2:=by unfold chkM;rw [if_pos (.inl c1)]
  rw [r]
  have hsp:=@Nat.succ_ne_zero;repeat' (first|simp (disch:=first|exact dqb|fail) only [go_sem,hsp,t1,eH,g0,g1]|refine WP_drw ?_|refine cnd_intro (fun hsp=>?_) fun hsp=>?_)
  exact fI rfl
theorem Parts.len {h:Heap} {v:AVal} {ps:List Prt} (x:Parts h v ps):lenOpA prog h 23 v=some (.int .i64 (ps.length:Int)):=by
 obtain ⟨vs,h1,h2,_⟩:=x
 have:=h1.len (P:=prog) Fc.el23
 rwa [h2] at this
theorem Parts.one {h:Heap} {v:AVal} {ps:List Prt} (x:Parts h v ps):One v:=by
 obtain ⟨vs,h1,_⟩:=x
 exact h1.one
theorem run_part {base:Nat} {h:Heap} {R T n:Int} {pv sv:AVal} {ps:List Prt} (hP:Parts h pv ps) (hS:One sv) (hl:ps.length≤1048576):callL prog raw base (.fn 106 [] []) [lomV R T pv sv,.int .i64 n] h=some (.bool (decide (0≤n∧n≤(ps.length:Int)-1)),h):=by
 have hn:∀ {T':Heap},lenOpA prog (h++T') 23 pv=some (.int .i64 (ps.length:Int)):=fun {T'}=>(hP.ext (.app .refl)).len
 have ho:=hP.one
 refine callL_run func106 rfl rfl ?_
 have hsp:=@Nat.succ_ne_zero;repeat' (first|simp (disch:=first|exact dqb|fail) only [go_sem,hsp,hn]|refine WP_drw ?_|refine cnd_intro (fun hsp=>?_) fun hsp=>?_)
 exact fB rfl
def brkM (L:Lom) (b:Int × Int × Int):Int :=
 if ¬ (0≤b.1∧b.1≤(L.ps.length:Int)-1) then 1 else
 if ¬ (0≤b.2.1∧b.2.1≤L.T-1) ∨ ¬ (0≤b.2.2∧b.2.2≤L.T-1) ∨ b.2.1 > b.2.2 then 3 else 0
theorem run_broken {base:Nat} {h:Heap} {L:Lom} {pv sv:AVal} {b:Int × Int × Int} (hP:Parts h pv L.ps) (hS:One sv) (hl:L.ps.length≤1048576) (hT:-1000≤L.T∧L.T≤1000):callL prog raw base (.fn 34 [] []) [lomV L.R L.T pv sv,.agg (encB.cells b)] h=some (.int .i64 (brkM L b),h):=by
 have hp:∀ {base:Nat} {T':Heap} {n:Int},callL prog raw base (.fn 106 [] []) [lomV L.R L.T pv sv,.int .i64 n] (h++T')=some (.bool (decide (0≤n∧n≤(L.ps.length:Int)-1)),h++T'):=fun {base T' n}=>run_part (hP.ext (.app .refl)) hS hl
 have hp2:∀ {base:Nat} {a c:ABlk} {n:Int},callL prog raw base (.fn 106 [] []) [lomV L.R L.T pv sv,.int .i64 n] (h++[a]++[c])=some (.bool (decide (0≤n∧n≤(L.ps.length:Int)-1)),h++[a]++[c]):=fun {base a c n}=>by rw [List.append_assoc];exact hp
 have ho:=hP.one
 simp only [encB]
 refine callL_run func34 rfl rfl ?_
 by_cases c1:0≤b.1∧b.1≤(L.ps.length:Int)-1
 ·have t1:(0≤b.1∧b.1≤(L.ps.length:Int)-1)=True:=eq_true c1
  by_cases c2:0≤b.2.1∧b.2.1≤L.T-1
  ·have t2:(0≤b.2.1∧b.2.1≤L.T-1)=True:=eq_true c2
   by_cases c3:0≤b.2.2∧b.2.2≤L.T-1
   ·have t3:(0≤b.2.2∧b.2.2≤L.T-1)=True:=eq_true c3
    by_cases c4:b.2.1 > b.2.2
    ·have t4:(b.2.1 > b.2.2)=True:=eq_true c4
     have r:brkM L b=3:=by unfold brkM;rw [if_neg (fun q=>q c1),if_pos (.inr (.inr c4))]
     rw [r]
     have hsp:=@Nat.succ_ne_zero;repeat' (first|simp (disch:=first|exact dqb|fail) only [go_sem,hsp,hp2,t1,t2,t3,t4]|refine WP_drw ?_|refine cnd_intro (fun hsp=>?_) fun hsp=>?_)
     exact fI rfl
    ·have t4:(b.2.1 > b.2.2)=False:=eq_false c4
     have r:brkM L b=0:=by unfold brkM;rw [if_neg (fun q=>q c1),if_neg (by rintro (q|q|q);exact q c2;exact q c3;exact c4 q)]
     rw [r]
     have hsp:=@Nat.succ_ne_zero;repeat' (first|simp (disch:=first|exact dqb|fail) only [go_sem,hsp,hp2,t1,t2,t3,t4]|refine WP_drw ?_|refine cnd_intro (fun hsp=>?_) fun hsp=>?_)
     exact fI rfl
   ·have t3:(0≤b.2.2∧b.2.2≤L.T-1)=False:=eq_false c3
    have r:brkM L b=3:=by unfold brkM;rw [if_neg (fun q=>q c1),if_pos (.inr (.inl c3))]
    rw [r]
    have hsp:=@Nat.succ_ne_zero;repeat' (first|simp (disch:=first|exact dqb|fail) only [go_sem,hsp,hp2,t1,t2,t3]|refine WP_drw ?_|refine cnd_intro (fun hsp=>?_) fun hsp=>?_)
    exact fI rfl
  ·have t2:(0≤b.2.1∧b.2.1≤L.T-1)=False:=eq_false c2
   have r:brkM L b=3:=by unfold brkM;rw [if_neg (fun q=>q c1),if_pos (.inl c2)]
   rw [r]
   have hsp:=@Nat.succ_ne_zero;repeat' (first|simp (disch:=first|exact dqb|fail) only [go_sem,hsp,hp2,t1,t2]|refine WP_drw ?_|refine cnd_intro (fun hsp=>?_) fun hsp=>?_)
   exact fI rfl
 ·have t1:(0≤b.1∧b.1≤(L.ps.length:Int)-1)=False:=eq_false c1
  have r:brkM L b=1:=by unfold brkM;rw [if_pos c1]
  rw [r]
  have hsp:=@Nat.succ_ne_zero;repeat' (first|simp (disch:=first|exact dqb|fail) only [go_sem,hsp,hp2,t1]|refine WP_drw ?_|refine cnd_intro (fun hsp=>?_) fun hsp=>?_)
  exact fI rfl
def hasB (s:Sgt) (x:Int × Int):Bool:=decide (x.1=s.rib∧s.lo≤x.2∧x.2≤s.hi)
end Flt
end Go.AM
