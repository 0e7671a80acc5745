/-
  Contracts: a ribbon at work (worked, opened).
-/
import Derived.Test.YtcemgempgbjbeaaGreatU12
import Derived.Test.YtcemgempgbjbeaaGreatU11
import Derived.Test.YtcemgempgbjbeaaGreatU10
import Derived.Test.YtcemgempgbjbeaaGreatU9
set_option linter.unusedSimpArgs false
set_option linter.unusedVariables false
namespace Go.AM
open Go.Proofs.Tryz
attribute [-go_sem] put_ne put_same
attribute [local go_sem ↓] put_if
theorem blB_nil:blB []=List.replicate 60 (.bool false):=by
 refine List.ext_getElem? fun i=>?_
 by_cases hi:i<60
 ·rw [blB_at hi,List.getElem?_replicate,if_pos hi];simp
 ·rw [List.getElem?_eq_none (by rw [blB_len];omega),List.getElem?_eq_none (by simp;omega)]
theorem bdD {L:Int} {fv wv:AVal}:buildA prog 257 [(0,.agg [.int .i64 L,fv,wv])]=some (.agg (.int .i64 L :: fv :: wv :: blB [])):=by
 have e:=Fc.bd257_0 (y0_0:=.int .i64 L) (y0_1:=fv) (y0_2:=wv)
 rw [e,blB_nil];rfl
theorem run_worked {base:Nat} {h:Heap} {v:AVal} {R:Rib} (hb:base≤h.length) (hA:RibAt h v R) (hR:RibOk R) :
  Ret prog raw base (.fn 130 [] []) [v] h (fun w H=>Ext h H∧∃ id,w=.ptr (some ⟨id,0,0⟩)∧h.length≤id∧DskAt H id R):=by
 obtain ⟨fv,wv,rfl,hF,hW⟩:=hA
 have o1:=hF.one
 have o2:=hW.one
 obtain ⟨G0,eG0⟩:∃ G0,G0=h++[ribB R.L fv wv]:=⟨_,rfl⟩
 have x0:Ext h G0:=by rw [eG0];exact .app .refl
 have g0:G0[h.length]?=some (ribB R.L fv wv):=by rw [eG0];exact get_eq rfl
 have l0:G0.length=h.length+1:=by rw [eG0];simp
 have eG1:∀ F,G0++[(⟨.cells (.int .i64 R.L :: fv :: wv :: blB F) 257 false false,0⟩:ABlk)]=G0++[dskB R.L fv wv F]:=fun _=>rfl
 have bd:=bdD (L:=R.L) (fv:=fv) (wv:=wv)
 have hn1:∀ F,lenOpA prog (G0++[dskB R.L fv wv F]) 35 fv=some (.int .i64 (R.F.length:Int)):=fun F=>lenI (hF.ext (x0.trans (.app .refl)))
 have hL:=hR.L
 have hnF:=hR.nF
 unfold ribB at eG0 g0
 refine ret_raw func130 rfl (by kernel_rfl) ?_
 have hsp:=@Nat.succ_ne_zero;repeat' (first|simp (disch:=first|exact dq|fail) only [go_sem,↓reduceIte,hsp,← eG0,g0,bd,eG1,hn1]|refine WP_drw ?_|refine cnd_intro (fun hsp=>?_) fun hsp=>?_)
 refine WP_count [(5,5),(12,21)] 0 R.F.length (Nat.zero_le _) (fun _ i fr H=>fr 12=.int .i64 (i:Int)∧H=G0++[dskB R.L fv wv (R.F.take i)]) ?_ ?_ ?_
 ·exact ⟨by (simp (disch:=first|exact dq|fail) only [go_sem,↓reduceIte,Int.natCast_zero];first|done|rfl),by simp⟩
 ·rintro i fr H hi0 hi hA ⟨r12,rfl⟩
  have p2:=hA 2 rfl
  have p3:=hA 3 rfl
  have p10:=hA 10 rfl
  have p11:=hA 11 rfl
  try simp (disch:=first|exact dq|fail) only [go_sem,↓reduceIte] at p2 p3 p10 p11
  have hlt:((i:Int)<(R.F.length:Int))=True:=eq_true (by omega)
  have iF:=hF.ext (x0.trans (.app (t:=[dskB R.L fv wv (R.F.take i)]) .refl))
  have hl0:=loadI iF hi
  have ha0:=adrI (i:=(i:Int)) (by omega) iF (by omega)
  rw [Int.toNat_natCast] at ha0
  have hu:=hR.F _ (getD_mem' (d:=0) hi)
  obtain ⟨u,eu⟩:=Int.eq_ofNat_of_zero_le hu.1
  rw [eu] at hl0 hu
  have hu60:u<60:=by omega
  have e3:3+(u:Int).toNat * 1=3+u:=by omega
  have g1:(G0++[dskB R.L fv wv (R.F.take i)])[G0.length]?=some (dskB R.L fv wv (R.F.take i)):=get_eq rfl
  have st:∀ {F:ABlk→Heap},stQ base G0.length (some (dskB R.L fv wv (R.F.take i))) 0 (3+u) [.bool true] F=some (F (dskB R.L fv wv (R.F.take i++[(u:Int)]))):=fun {F}=>dsk_st (by omega) hu60
  have hsp:=@Nat.succ_ne_zero;repeat' (first|simp (disch:=first|exact dq|fail) only [go_sem,↓reduceIte,hsp,r12,p2,p3,p10,p11,hlt,ha0,hl0,e3,g1,st]|refine WP_drw ?_|refine cnd_intro (fun hsp=>?_) fun hsp=>?_)
  refine ⟨agq,by omega,?_⟩
  rw [List.take_add_one,getD_some (d:=0) hi,eu];rfl
 ·rintro fr H hA ⟨r12,rfl⟩
  have p2:=hA 2 rfl
  have p3:=hA 3 rfl
  have p10:=hA 10 rfl
  have p11:=hA 11 rfl
  try simp (disch:=first|exact dq|fail) only [go_sem,↓reduceIte] at p2 p3 p10 p11
  have hlt:((R.F.length:Int)<(R.F.length:Int))=False:=eq_false (by omega)
  rw [List.take_length]
  have hsp:=@Nat.succ_ne_zero;repeat' (first|simp (disch:=first|exact dq|fail) only [go_sem,↓reduceIte,hsp,r12,p2,p3,p10,p11,hlt]|refine WP_drw ?_|refine cnd_intro (fun hsp=>?_) fun hsp=>?_)
  have x1:Ext h (G0++[dskB R.L fv wv R.F]):=x0.trans (.app .refl)
  exact ⟨x1,_,rfl,by omega,fv,wv,get_eq rfl,hF.ext x1,hW.ext x1⟩
theorem run_opened {base:Nat} {h:Heap} {v:AVal} {R:Rib} (hb:base≤h.length) (hA:RibAt h v R) (hsm:R.F.length≤1048576) :
  Ret prog raw base (.fn 47 [] []) [v] h (fun w H=>Ext h H∧(chkR R ≠ 0→w=.tuple [.ptr none,.int .i64 (chkR R)])∧(chkR R=0→∃ id,w=.tuple [.ptr (some ⟨id,0,0⟩),.int .i64 0]∧h.length≤id∧DskAt H id R)):=by
 have hAe:=fun H (e:Ext h H)=>hA.ext e
 obtain ⟨fv,wv,rfl,hF,hW⟩:=hA
 have o1:=hF.one
 have o2:=hW.one
 obtain ⟨G0,eG0⟩:∃ G0,G0=h++[ribB R.L fv wv]:=⟨_,rfl⟩
 have x0:Ext h G0:=by rw [eG0];exact .app .refl
 have g0:G0[h.length]?=some (ribB R.L fv wv):=by rw [eG0];exact get_eq rfl
 have l0:G0.length=h.length+1:=by rw [eG0];simp
 have hA0:=hAe G0 x0
 have hck0:=fun base=>run_Check (base:=base) hA0 hsm
 unfold ribB at eG0 g0
 by_cases c0:chkR R=0
 ·rw [c0] at hck0
  obtain ⟨w1,H1,e1,x1,id,rfl,hid,hD⟩:=run_worked (base:=base) (by omega) hA0 (chkR_iff.1 c0)
  refine ret_raw func47 rfl (by kernel_rfl) ?_
  have hsp:=@Nat.succ_ne_zero;repeat' (first|simp (disch:=first|exact dq|fail) only [go_sem,↓reduceIte,hsp,← eG0,g0,hck0,e1]|refine WP_drw ?_|refine cnd_intro (fun hsp=>?_) fun hsp=>?_)
  exact ⟨x0.trans x1,fun q=>absurd c0 q,fun _=>⟨id,rfl,by omega,hD⟩⟩
 ·have t0:(chkR R=0)=False:=eq_false c0
  refine ret_raw func47 rfl (by kernel_rfl) ?_
  have hsp:=@Nat.succ_ne_zero;repeat' (first|simp (disch:=first|exact dq|fail) only [go_sem,↓reduceIte,hsp,← eG0,g0,hck0,t0]|refine WP_drw ?_|refine cnd_intro (fun hsp=>?_) fun hsp=>?_)
  refine ⟨x0,?_,?_⟩<;>first|trivial|exact fun _=>rfl|exact fun q=>q.elim|exact fun q=>absurd q c0
end Go.AM
namespace Go.AM
open Go.Proofs.Tryz
attribute [-go_sem] put_ne put_same
attribute [local go_sem ↓] put_if
abbrev cutB (c:Ct):ABlk:=⟨.cells [.int .i64 c.w,.int .i64 c.f,.bool c.j] 95 false false,0⟩
def uniO (R:Rib) (w:Wnt) (x:Nat) (j:Bool):List Int × Int:=if (j && badF R x)=true then ([],0) else uniP R w x j
end Go.AM
namespace Go.AM
open Go.Proofs.Tryz
attribute [-go_sem] put_ne put_same
attribute [local go_sem ↓] put_if
def takV:Option (Int × Int)→AVal
 | some e=>.tuple [.agg [.int .i64 e.1,.int .i64 e.2],.bool true]
 | none=>.tuple [.agg [.int .i64 0,.int .i64 0],.bool false]
abbrev wntBk (w:Wnt):ABlk:=⟨.cells [.int .i64 w.lg,.int .i64 w.pr,.int .i64 w.off,.int .i64 w.fl,.int .i64 w.jn] 74 false false,0⟩
end Go.AM
namespace Go.AM
open Go.Proofs.Tryz
attribute [-go_sem] put_ne put_same
attribute [local go_sem ↓] put_if
abbrev pB (id:Nat):ABlk:=⟨.cells [.ptr (some ⟨id,0,0⟩)] 142 false false,0⟩
abbrev nB (x:Int):ABlk:=⟨.cells [.int .i64 x] 3 false false,0⟩
def tfB:ABlk:=⟨.cells [.bool false,.bool true] 4 true false,0⟩
abbrev wayB (e p:Int):ABlk:=⟨.cells [.int .i64 e,.int .i64 p] 262 false false,0⟩
abbrev cutV (c:Ct):AVal:=.agg [.int .i64 c.w,.int .i64 c.f,.bool c.j]
abbrev wayV (e:Int × Int):AVal:=.agg [.int .i64 e.1,.int .i64 e.2]
def XC (R:Rib) (x j:Nat) (a:List AVal) (_:Heap):Prop:=∃ c,(cutL R x)[j]?=some c∧a=[cutV c.1,wayV c.2]
def prT (b:ABlk):Prop:=b=tfB
end Go.AM
namespace Go.AM
open Go.Proofs.Tryz
attribute [-go_sem] put_ne put_same
attribute [local go_sem ↓] put_if
abbrev valBk (l:List Int):ABlk:=⟨.cells (ints l) 152 false false,0⟩
def zer61:List Int:=lst (fun _=>0) 61
def mdS (R:Rib) (x:Nat):List Int:=lst (fun y=>if x≤y then valD R y else 0) 61
def mdP (R:Rib) (x:Nat) (a:Int):List Int:=lst (fun y=>if y=x then a else if x<y then valD R y else 0) 61
def accM (R:Rib) (x j:Nat):Int:=((cutL R x).take j).foldl (mx1 R) (valD R (x+1))
end Go.AM
namespace Go.AM
end Go.AM
namespace Go.AM
open Go.Proofs.Tryz
attribute [-go_sem] put_ne put_same
attribute [local go_sem ↓] put_if
attribute [-go_sem] bin_shr bin_mul bin_add
section
variable {n:Nat}
end
section
variable {α:Type} {E:Enc α} {P:Program} {t e:TypeId} {base id ver a b:Nat} {h:Heap} {l:List α} {zs:List AVal}
end
end Go.AM
namespace Go.AM
open Go.Proofs.Tryz
attribute [-go_sem] put_ne put_same
attribute [local go_sem ↓] put_if
def thV (_:Bool):AVal:=.fn 49 [] []
section
variable {b:Bool} {R:Rib} {x y:Nat}
abbrev bstB (l:List Int):ABlk:=⟨.cells (ints l) 253 false false,0⟩
def bsL (b:Bool) (R:Rib) (x:Nat):List Int:=lst (fun i=>if x≤i / 2 then (if i % 2=0 then (folD b R (i / 2)).e else (folD b R (i / 2)).c) else 0) 122
def bsP (b:Bool) (R:Rib) (x:Nat) (e c:Int):List Int:=lst (fun i=>if i / 2=x then (if i % 2=0 then e else c) else if x<i / 2 then (if i % 2=0 then (folD b R (i / 2)).e else (folD b R (i / 2)).c) else 0) 122
def toS (b:Bool) (R:Rib) (x:Nat):List Int:=lst (fun y=>if x≤y then ((folD b R y).to:Int) else 0) R.L.toNat
def toP (b:Bool) (R:Rib) (x:Nat) (t:Int):List Int:=lst (fun y=>if y=x then t else if x<y then ((folD b R y).to:Int) else 0) R.L.toNat
def nxS (b:Bool) (R:Rib) (x:Nat):List Ct:=(List.range R.L.toNat).map fun y=>if x≤y then (folD b R y).nx else noC
def nxP (b:Bool) (R:Rib) (x:Nat) (c:Ct):List Ct:=(List.range R.L.toNat).map fun y=>if y=x then c else if x<y then (folD b R y).nx else noC
end
end Go.AM
namespace Go.AM
open Go.Proofs.Tryz
attribute [-go_sem] put_ne put_same
attribute [local go_sem ↓] put_if
abbrev cslB (v:AVal):ABlk:=⟨.cells [v] 41 false false,0⟩
abbrev islB (v:AVal):ABlk:=⟨.cells [v] 35 false false,0⟩
abbrev onB (g:AVal):ABlk:=⟨.cells [g] 263 false false,0⟩
abbrev onV (d nx no ou fn tb:Nat):AVal:=.fn 133 [] [.ptr (some ⟨d,0,0⟩),.ptr (some ⟨nx,0,0⟩),.ptr (some ⟨no,0,0⟩),.ptr (some ⟨ou,0,0⟩),.ptr (some ⟨fn,0,0⟩),.ptr (some ⟨tb,0,0⟩)]
structure FolC (b:Bool) (R:Rib) (H0:Heap) (id d nx no tb r1 r2:Nat):Prop where
 dk:DskAt H0 id R
 d:H0[d]?=some (pB id)
 nx:H0[nx]?=some (cslB (.slice (some ⟨r1,0,0⟩) R.L.toNat R.L.toNat))
 r1:H0[r1]?=some (rowE encC 95 (nxS b R 0) 0)
 no:H0[no]?=some (cutB noC)
 tb:H0[tb]?=some (islB (.slice (some ⟨r2,0,0⟩) R.L.toNat R.L.toNat))
 r2:H0[r2]?=some (rowB (toS b R 0) 0)
end Go.AM
namespace Go.AM
open Go.Proofs.Tryz
attribute [-go_sem] put_ne put_same
attribute [local go_sem ↓] put_if
def stF (b:Bool) (R:Rib) (x j:Nat):Fol:=((cutL R x).take j).foldl (folF b (folD b R)) ⟨(folD b R (x+1)).e,(folD b R (x+1)).c,noC,x+1⟩
abbrev thB' (b:Bool):ABlk:=⟨.cells [thV b] 150 false false,0⟩
structure FolB (b:Bool) (h H:Heap) (id n bx r1 p8 r2:Nat):Prop where
 x:Ext h H
 b0:H[h.length]?=some (pB id)
 b1:H[h.length+1]?=some (thB' b)
 b2:H[h.length+2]?=some (cutB noC)
 b7:H[bx]?=some (cslB (.slice (some ⟨r1,0,0⟩) n n))
 b8:H[p8]?=some (islB (.slice (some ⟨r2,0,0⟩) n n))
theorem FolB.set {b:Bool} {h H:Heap} {id n bx r1 p8 r2 i:Nat} {k:ABlk} (q:FolB b h H id n bx r1 p8 r2) (h0:h.length+2<i) (h1:i ≠ bx) (h2:i ≠ p8):FolB b h (H.set i k) id n bx r1 p8 r2 :=
 ⟨q.x.set (by omega),by rw [List.getElem?_set_ne (by omega)];exact q.b0,by rw [List.getElem?_set_ne (by omega)];exact q.b1,by rw [List.getElem?_set_ne (by omega)];exact q.b2,by rw [List.getElem?_set_ne h1];exact q.b7,by rw [List.getElem?_set_ne h2];exact q.b8⟩
end Go.AM
namespace Go.AM
open Go.Proofs.Tryz
attribute [-go_sem] put_ne put_same
attribute [local go_sem ↓] put_if
section
variable {R:Rib} {x j:Nat}
def bfJ (R:Rib) (x j:Nat):List Int:=((cutL R x).take j).foldl (fun K' c=>rlxL K' c.2.1.toNat ((bfN R x).getD x 0+c.2.2)) (rlxL (bfN R x) (x+1) ((bfN R x).getD x 0))
def usJ (R:Rib) (x j:Nat):List Int:=((cutL R x).take j).foldl (usF R ((bfN R x).getD x 0)) (usN R x)
end
end Go.AM
namespace Go.AM
namespace F4
section
variable {α:Type} (p:α→Bool)
end
structure Prt where
 rib:List Int
 each:Int
 ph:Int
 wv:Bool
structure Sgt where
 rib:Int
 lo:Int
 hi:Int
 bad:Bool
structure Lom where
 R:Int
 T:Int
 ps:List Prt
 ss:List Sgt
structure PrtV where
 v:AVal
 each:Int
 ph:Int
 wv:Bool
def encP:Enc PrtV:=⟨4,fun p=>[norm p.v,.int .i64 p.each,.int .i64 p.ph,.bool p.wv],fun _=>rfl,by decide⟩
def encS:Enc Sgt:=⟨4,fun s=>[.int .i64 s.rib,.int .i64 s.lo,.int .i64 s.hi,.bool s.bad],fun _=>rfl,by decide⟩
def encB:Enc (Int × Int × Int):=⟨3,fun b=>[.int .i64 b.1,.int .i64 b.2.1,.int .i64 b.2.2],fun _=>rfl,by decide⟩
def encT:Enc (Int × Int):=⟨2,fun b=>[.int .i64 b.1,.int .i64 b.2],fun _=>rfl,by decide⟩
theorem encP_sc:∀ y,(encP.cells y).all AVal.scalar=true:=fun y=>by
 have:(norm y.v).scalar=true:=by unfold norm;split<;>simp_all [AVal.scalar]
 simp only [encP,List.all_cons,this,List.all_nil]
 rfl
theorem encS_sc:∀ y,(encS.cells y).all AVal.scalar=true:=fun y=>by simp [encS,AVal.scalar]
theorem encB_sc:∀ y,(encB.cells y).all AVal.scalar=true:=fun y=>by simp [encB,AVal.scalar]
theorem encT_sc:∀ y,(encT.cells y).all AVal.scalar=true:=fun y=>by simp [encT,AVal.scalar]
def Parts (h:Heap) (v:AVal) (ps:List Prt):Prop:=∃ vs:List PrtV,Rows encP h v vs∧vs.length=ps.length∧∀ (i:Nat) x p,vs[i]?=some x→ps[i]?=some p→Ints h x.v p.rib∧x.each=p.each∧x.ph=p.ph∧x.wv=p.wv
theorem Parts.ext {h H:Heap} {v:AVal} {ps:List Prt} (x:Parts h v ps) (e:Ext h H):Parts H v ps:=by
 obtain ⟨vs,h1,h2,h3⟩:=x
 exact ⟨vs,h1.ext e,h2,fun i x p a b=>⟨(h3 i x p a b).1.ext e,(h3 i x p a b).2⟩⟩
def LomAt (h:Heap) (v:AVal) (L:Lom):Prop:=∃ pv sv,v=.agg [.int .i64 L.R,.int .i64 L.T,pv,sv]∧Parts h pv L.ps∧Rows encS h sv L.ss
theorem LomAt.ext {h H:Heap} {v:AVal} {L:Lom} (x:LomAt h v L) (e:Ext h H):LomAt H v L:=by
 obtain ⟨pv,sv,h1,h2,h3⟩:=x
 exact ⟨pv,sv,h1,h2.ext e,h3.ext e⟩
end F4
end Go.AM
namespace Go.AM
namespace F4
open Go.Proofs.Tryz
theorem idxF_P {base:Nat} {h:Heap} {v g:AVal} {l:List (PrtV)} (p:PrtV→Bool) (hR:Rows encP h v l) (hg:∀ base x,x ∈ l→callL prog raw base g [.agg (encP.cells x)] h=some (.bool (p x),h)) :
  callL prog raw base (.fn 243 [] []) [v,g] h=some (.int .i64 (idx p l),h):=by
 have hb:l.length<2 ^ 60:=hR.1
 refine callL_run func243 rfl rfl ?_
 have hsp:=@Nat.succ_ne_zero;repeat' (first|simp (disch:=first|exact dq|fail) only [go_sem,hsp,hR.len Fc.el59]|refine WP_drw ?_|refine cnd_intro (fun hsp=>?_) fun hsp=>?_)
 refine WP_loop (fun σ=>∃ n:Nat,σ.fr 8=.int .i64 (n:Int)∧σ.fr 0=v∧σ.fr 1=g∧σ.fr 7=.int .i64 (l.length:Int)∧σ.h=h∧n≤l.length∧(∀ x ∈ l.take n,p x=false)) (fun σ=>match σ.fr 8 with|.int _ x=>(((l.length:Nat):Int)-x).toNat|_=>0) ?_ ?_
 ·refine ⟨0,?_,?_,?_,?_,?_,by omega,?_⟩
  iterate 5 focus (first|rfl|(simp (disch:=first|exact dq|fail) only [go_sem,Int.natCast_zero];first|done|rfl))
  intro x hx;simp at hx
 ·rintro ⟨fr,hp⟩ ⟨n,r8,r0,r1,r7,rh,hi,hP⟩
  dsimp only at r8 r0 r1 r7 rh hi hP
  subst rh
  by_cases hn:n<l.length
  ·have hlt:((n:Int)<(l.length:Int))=True:=eq_true (by omega)
   have hx:l[n]?=some l[n]:=List.getElem?_eq_getElem hn
   have had:=hR.addr (i:=(n:Int)) Fc.el59 Fc.ar59 (by omega) (by omega)
   rw [Int.toNat_natCast] at had
   have hld:=hR.load Fc.ty58 hx
   have hc:=fun base=>hg base l[n] (List.getElem_mem hn)
   cases hp:p l[n] with
   | true =>
    rw [hp] at hc
    have hsp:=@Nat.succ_ne_zero;repeat' (first|simp (disch:=first|exact dq|fail) only [go_sem,hsp,r8,r0,r1,r7,hlt,had,hld,hc]|refine WP_drw ?_|refine cnd_intro (fun hsp=>?_) fun hsp=>?_)
    rw [idx_hit p hn hP hp]
    all_goals (first|refine fI ?_|refine fB ?_|refine fII ?_ ?_|refine fBI ?_ ?_|refine fIII ?_ ?_ ?_|refine fIIB ?_ ?_ ?_|skip);all_goals (try dsimp only);all_goals (try with_reducible rfl);all_goals (try omega)
   | false =>
    rw [hp] at hc
    have hsp:=@Nat.succ_ne_zero;repeat' (first|simp (disch:=first|exact dq|fail) only [go_sem,hsp,r8,r0,r1,r7,hlt,had,hld,hc]|refine WP_drw ?_|refine cnd_intro (fun hsp=>?_) fun hsp=>?_)
    exact ⟨⟨n+1,by simp,by omega,take_next p hn hP hp⟩,by omega⟩
  ·have hlt:((n:Int)<(l.length:Int))=False:=eq_false (by omega)
   obtain rfl:n=l.length:=by omega
   have hsp:=@Nat.succ_ne_zero;repeat' (first|simp (disch:=first|exact dq|fail) only [go_sem,hsp,r8,r0,r1,r7,hlt]|refine WP_drw ?_|refine cnd_intro (fun hsp=>?_) fun hsp=>?_)
   rw [idx_miss p hP]
   all_goals (first|refine fI ?_|refine fB ?_|refine fII ?_ ?_|refine fBI ?_ ?_|refine fIII ?_ ?_ ?_|refine fIIB ?_ ?_ ?_|skip);all_goals (try dsimp only);all_goals (try with_reducible rfl);all_goals (try omega)
theorem anyF_P {base:Nat} {h:Heap} {v g:AVal} {l:List (PrtV)} (p:PrtV→Bool) (hR:Rows encP h v l) (hg:∀ base x,x ∈ l→callL prog raw base g [.agg (encP.cells x)] h=some (.bool (p x),h)) :
  callL prog raw base (.fn 183 [] []) [v,g] h=some (.bool (l.any p),h):=by
 have hi:=fun base=>idxF_P (base:=base) p hR hg
 have h0:=idx_any p l
 refine callL_run func183 rfl rfl ?_
 have hsp:=@Nat.succ_ne_zero;repeat' (first|simp (disch:=first|exact dq|fail) only [go_sem,hsp,hi]|refine WP_drw ?_|refine cnd_intro (fun hsp=>?_) fun hsp=>?_)
 refine fB ?_
 by_cases h1:l.any p=true
 ·rw [h1];simpa using h0.2 h1
 ·have h2:¬ 0≤idx p l:=fun h=>h1 (h0.1 h)
  simp only [Bool.not_eq_true] at h1
  rw [h1];simpa using h2
theorem not_P {base id:Nat} {h:Heap} {g:AVal} {x:PrtV} {b:Bool} (hid:h[id]?=some ⟨.cells [g] 239 false false,0⟩) (hg:∀ base T,callL prog raw base g [.agg (encP.cells x)] (h++T)=some (.bool b,h++T)) :
  callL prog raw base (.fn 184 [] [.ptr (some ⟨id,0,0⟩)]) [.agg (encP.cells x)] h=some (.bool (!b),h):=by
 have hgi:=lt_of_get hid
 simp only [encP] at hg ⊢
 refine callL_run func184 rfl rfl ?_
 have hsp:=@Nat.succ_ne_zero;repeat' (first|simp (disch:=first|exact dq|fail) only [go_sem,hsp,hid,hg]|refine WP_drw ?_|refine cnd_intro (fun hsp=>?_) fun hsp=>?_)
 exact fB rfl
theorem every_P {base:Nat} {h:Heap} {v g:AVal} {l:List (PrtV)} (p:PrtV→Bool) (hR:Rows encP h v l) (hg:∀ base T x,x ∈ l→callL prog raw base g [.agg (encP.cells x)] (h++T)=some (.bool (p x),h++T)) (h1:One g) :
  callL prog raw base (.fn 110 [] []) [v,g] h=some (.bool (l.all p),h):=by
 have hc:=fun base=>anyF_P (base:=base) (fun x=>!p x) hR.app (fun base x hx=>not_P (x:=x) (get_eq rfl) (fun base T=>by have:=hg base ([⟨.cells [g] 239 false false,0⟩]++T) x hx;rwa [← List.append_assoc] at this))
 refine callL_run func110 rfl rfl ?_
 have hsp:=@Nat.succ_ne_zero;repeat' (first|simp (disch:=first|exact dq|fail) only [go_sem,hsp,hc]|refine WP_drw ?_|refine cnd_intro (fun hsp=>?_) fun hsp=>?_)
 refine fB ?_
 rw [List.any_eq_not_all_not]
 simp
theorem idxF_S {base:Nat} {h:Heap} {v g:AVal} {l:List (Sgt)} (p:Sgt→Bool) (hR:Rows encS h v l) (hg:∀ base x,x ∈ l→callL prog raw base g [.agg (encS.cells x)] h=some (.bool (p x),h)) :
  callL prog raw base (.fn 244 [] []) [v,g] h=some (.int .i64 (idx p l),h):=by
 have hb:l.length<2 ^ 60:=hR.1
 refine callL_run func244 rfl rfl ?_
 have hsp:=@Nat.succ_ne_zero;repeat' (first|simp (disch:=first|exact dq|fail) only [go_sem,hsp,hR.len Fc.el60]|refine WP_drw ?_|refine cnd_intro (fun hsp=>?_) fun hsp=>?_)
 refine WP_loop (fun σ=>∃ n:Nat,σ.fr 8=.int .i64 (n:Int)∧σ.fr 0=v∧σ.fr 1=g∧σ.fr 7=.int .i64 (l.length:Int)∧σ.h=h∧n≤l.length∧(∀ x ∈ l.take n,p x=false)) (fun σ=>match σ.fr 8 with|.int _ x=>(((l.length:Nat):Int)-x).toNat|_=>0) ?_ ?_
 ·refine ⟨0,?_,?_,?_,?_,?_,by omega,?_⟩
  iterate 5 focus (first|rfl|(simp (disch:=first|exact dq|fail) only [go_sem,Int.natCast_zero];first|done|rfl))
  intro x hx;simp at hx
 ·rintro ⟨fr,hp⟩ ⟨n,r8,r0,r1,r7,rh,hi,hP⟩
  dsimp only at r8 r0 r1 r7 rh hi hP
  subst rh
  by_cases hn:n<l.length
  ·have hlt:((n:Int)<(l.length:Int))=True:=eq_true (by omega)
   have hx:l[n]?=some l[n]:=List.getElem?_eq_getElem hn
   have had:=hR.addr (i:=(n:Int)) Fc.el60 Fc.ar60 (by omega) (by omega)
   rw [Int.toNat_natCast] at had
   have hld:=hR.load Fc.ty113 hx
   have hc:=fun base=>hg base l[n] (List.getElem_mem hn)
   cases hp:p l[n] with
   | true =>
    rw [hp] at hc
    have hsp:=@Nat.succ_ne_zero;repeat' (first|simp (disch:=first|exact dq|fail) only [go_sem,hsp,r8,r0,r1,r7,hlt,had,hld,hc]|refine WP_drw ?_|refine cnd_intro (fun hsp=>?_) fun hsp=>?_)
    rw [idx_hit p hn hP hp]
    all_goals (first|refine fI ?_|refine fB ?_|refine fII ?_ ?_|refine fBI ?_ ?_|refine fIII ?_ ?_ ?_|refine fIIB ?_ ?_ ?_|skip);all_goals (try dsimp only);all_goals (try with_reducible rfl);all_goals (try omega)
   | false =>
    rw [hp] at hc
    have hsp:=@Nat.succ_ne_zero;repeat' (first|simp (disch:=first|exact dq|fail) only [go_sem,hsp,r8,r0,r1,r7,hlt,had,hld,hc]|refine WP_drw ?_|refine cnd_intro (fun hsp=>?_) fun hsp=>?_)
    exact ⟨⟨n+1,by simp,by omega,take_next p hn hP hp⟩,by omega⟩
  ·have hlt:((n:Int)<(l.length:Int))=False:=eq_false (by omega)
   obtain rfl:n=l.length:=by omega
   have hsp:=@Nat.succ_ne_zero;repeat' (first|simp (disch:=first|exact dq|fail) only [go_sem,hsp,r8,r0,r1,r7,hlt]|refine WP_drw ?_|refine cnd_intro (fun hsp=>?_) fun hsp=>?_)
   rw [idx_miss p hP]
   all_goals (first|refine fI ?_|refine fB ?_|refine fII ?_ ?_|refine fBI ?_ ?_|refine fIII ?_ ?_ ?_|refine fIIB ?_ ?_ ?_|skip);all_goals (try dsimp only);all_goals (try with_reducible rfl);all_goals (try omega)
theorem anyF_S {base:Nat} {h:Heap} {v g:AVal} {l:List (Sgt)} (p:Sgt→Bool) (hR:Rows encS h v l) (hg:∀ base x,x ∈ l→callL prog raw base g [.agg (encS.cells x)] h=some (.bool (p x),h)) :
  callL prog raw base (.fn 185 [] []) [v,g] h=some (.bool (l.any p),h):=by
 have hi:=fun base=>idxF_S (base:=base) p hR hg
 have h0:=idx_any p l
 refine callL_run func185 rfl rfl ?_
 have hsp:=@Nat.succ_ne_zero;repeat' (first|simp (disch:=first|exact dq|fail) only [go_sem,hsp,hi]|refine WP_drw ?_|refine cnd_intro (fun hsp=>?_) fun hsp=>?_)
 refine fB ?_
 by_cases h1:l.any p=true
 ·rw [h1];simpa using h0.2 h1
 ·have h2:¬ 0≤idx p l:=fun h=>h1 (h0.1 h)
  simp only [Bool.not_eq_true] at h1
  rw [h1];simpa using h2
theorem not_S {base id:Nat} {h:Heap} {g:AVal} {x:Sgt} {b:Bool} (hid:h[id]?=some ⟨.cells [g] 241 false false,0⟩) (hg:∀ base T,callL prog raw base g [.agg (encS.cells x)] (h++T)=some (.bool b,h++T)) :
  callL prog raw base (.fn 186 [] [.ptr (some ⟨id,0,0⟩)]) [.agg (encS.cells x)] h=some (.bool (!b),h):=by
 have hgi:=lt_of_get hid
 simp only [encS] at hg ⊢
 refine callL_run func186 rfl rfl ?_
 have hsp:=@Nat.succ_ne_zero;repeat' (first|simp (disch:=first|exact dq|fail) only [go_sem,hsp,hid,hg]|refine WP_drw ?_|refine cnd_intro (fun hsp=>?_) fun hsp=>?_)
 exact fB rfl
theorem every_S {base:Nat} {h:Heap} {v g:AVal} {l:List (Sgt)} (p:Sgt→Bool) (hR:Rows encS h v l) (hg:∀ base T x,x ∈ l→callL prog raw base g [.agg (encS.cells x)] (h++T)=some (.bool (p x),h++T)) (h1:One g) :
  callL prog raw base (.fn 114 [] []) [v,g] h=some (.bool (l.all p),h):=by
 have hc:=fun base=>anyF_S (base:=base) (fun x=>!p x) hR.app (fun base x hx=>not_S (x:=x) (get_eq rfl) (fun base T=>by have:=hg base ([⟨.cells [g] 241 false false,0⟩]++T) x hx;rwa [← List.append_assoc] at this))
 refine callL_run func114 rfl rfl ?_
 have hsp:=@Nat.succ_ne_zero;repeat' (first|simp (disch:=first|exact dq|fail) only [go_sem,hsp,hc]|refine WP_drw ?_|refine cnd_intro (fun hsp=>?_) fun hsp=>?_)
 refine fB ?_
 rw [List.any_eq_not_all_not]
 simp
theorem idxF_T {base:Nat} {h:Heap} {v g:AVal} {l:List (Int × Int)} (p:Int × Int→Bool) (hR:Rows encT h v l) (hg:∀ base x,x ∈ l→callL prog raw base g [.agg (encT.cells x)] h=some (.bool (p x),h)) :
  callL prog raw base (.fn 280 [] []) [v,g] h=some (.int .i64 (idx p l),h):=by
 have hb:l.length<2 ^ 60:=hR.1
 refine callL_run func280 rfl rfl ?_
 have hsp:=@Nat.succ_ne_zero;repeat' (first|simp (disch:=first|exact dq|fail) only [go_sem,hsp,hR.len Fc.el63]|refine WP_drw ?_|refine cnd_intro (fun hsp=>?_) fun hsp=>?_)
 refine WP_loop (fun σ=>∃ n:Nat,σ.fr 8=.int .i64 (n:Int)∧σ.fr 0=v∧σ.fr 1=g∧σ.fr 7=.int .i64 (l.length:Int)∧σ.h=h∧n≤l.length∧(∀ x ∈ l.take n,p x=false)) (fun σ=>match σ.fr 8 with|.int _ x=>(((l.length:Nat):Int)-x).toNat|_=>0) ?_ ?_
 ·refine ⟨0,?_,?_,?_,?_,?_,by omega,?_⟩
  iterate 5 focus (first|rfl|(simp (disch:=first|exact dq|fail) only [go_sem,Int.natCast_zero];first|done|rfl))
  intro x hx;simp at hx
 ·rintro ⟨fr,hp⟩ ⟨n,r8,r0,r1,r7,rh,hi,hP⟩
  dsimp only at r8 r0 r1 r7 rh hi hP
  subst rh
  by_cases hn:n<l.length
  ·have hlt:((n:Int)<(l.length:Int))=True:=eq_true (by omega)
   have hx:l[n]?=some l[n]:=List.getElem?_eq_getElem hn
   have had:=hR.addr (i:=(n:Int)) Fc.el63 Fc.ar63 (by omega) (by omega)
   rw [Int.toNat_natCast] at had
   have hld:=hR.load Fc.ty70 hx
   have hc:=fun base=>hg base l[n] (List.getElem_mem hn)
   cases hp:p l[n] with
   | true =>
    rw [hp] at hc
    have hsp:=@Nat.succ_ne_zero;repeat' (first|simp (disch:=first|exact dq|fail) only [go_sem,hsp,r8,r0,r1,r7,hlt,had,hld,hc]|refine WP_drw ?_|refine cnd_intro (fun hsp=>?_) fun hsp=>?_)
    rw [idx_hit p hn hP hp]
    all_goals (first|refine fI ?_|refine fB ?_|refine fII ?_ ?_|refine fBI ?_ ?_|refine fIII ?_ ?_ ?_|refine fIIB ?_ ?_ ?_|skip);all_goals (try dsimp only);all_goals (try with_reducible rfl);all_goals (try omega)
   | false =>
    rw [hp] at hc
    have hsp:=@Nat.succ_ne_zero;repeat' (first|simp (disch:=first|exact dq|fail) only [go_sem,hsp,r8,r0,r1,r7,hlt,had,hld,hc]|refine WP_drw ?_|refine cnd_intro (fun hsp=>?_) fun hsp=>?_)
    exact ⟨⟨n+1,by simp,by omega,take_next p hn hP hp⟩,by omega⟩
  ·have hlt:((n:Int)<(l.length:Int))=False:=eq_false (by omega)
   obtain rfl:n=l.length:=by omega
   have hsp:=@Nat.succ_ne_zero;repeat' (first|simp (disch:=first|exact dq|fail) only [go_sem,hsp,r8,r0,r1,r7,hlt]|refine WP_drw ?_|refine cnd_intro (fun hsp=>?_) fun hsp=>?_)
   rw [idx_miss p hP]
   all_goals (first|refine fI ?_|refine fB ?_|refine fII ?_ ?_|refine fBI ?_ ?_|refine fIII ?_ ?_ ?_|refine fIIB ?_ ?_ ?_|skip);all_goals (try dsimp only);all_goals (try with_reducible rfl);all_goals (try omega)
theorem anyF_T {base:Nat} {h:Heap} {v g:AVal} {l:List (Int × Int)} (p:Int × Int→Bool) (hR:Rows encT h v l) (hg:∀ base x,x ∈ l→callL prog raw base g [.agg (encT.cells x)] h=some (.bool (p x),h)) :
  callL prog raw base (.fn 241 [] []) [v,g] h=some (.bool (l.any p),h):=by
 have hi:=fun base=>idxF_T (base:=base) p hR hg
 have h0:=idx_any p l
 refine callL_run func241 rfl rfl ?_
 have hsp:=@Nat.succ_ne_zero;repeat' (first|simp (disch:=first|exact dq|fail) only [go_sem,hsp,hi]|refine WP_drw ?_|refine cnd_intro (fun hsp=>?_) fun hsp=>?_)
 refine fB ?_
 by_cases h1:l.any p=true
 ·rw [h1];simpa using h0.2 h1
 ·have h2:¬ 0≤idx p l:=fun h=>h1 (h0.1 h)
  simp only [Bool.not_eq_true] at h1
  rw [h1];simpa using h2
theorem idxF_I {base:Nat} {h:Heap} {v g:AVal} {l:List (Int)} (p:Int→Bool) (hR:Ints h v l) (hg:∀ base x,x ∈ l→callL prog raw base g [.int .i64 x] h=some (.bool (p x),h)) :
  callL prog raw base (.fn 166 [] []) [v,g] h=some (.int .i64 (idx p l),h):=by
 have hb:l.length<2 ^ 60:=hR.1.1
 refine callL_run func166 rfl rfl ?_
 have hsp:=@Nat.succ_ne_zero;repeat' (first|simp (disch:=first|exact dq|fail) only [go_sem,hsp,hR.len Fc.el35]|refine WP_drw ?_|refine cnd_intro (fun hsp=>?_) fun hsp=>?_)
 refine WP_loop (fun σ=>∃ n:Nat,σ.fr 8=.int .i64 (n:Int)∧σ.fr 0=v∧σ.fr 1=g∧σ.fr 7=.int .i64 (l.length:Int)∧σ.h=h∧n≤l.length∧(∀ x ∈ l.take n,p x=false)) (fun σ=>match σ.fr 8 with|.int _ x=>(((l.length:Nat):Int)-x).toNat|_=>0) ?_ ?_
 ·refine ⟨0,?_,?_,?_,?_,?_,by omega,?_⟩
  iterate 5 focus (first|rfl|(simp (disch:=first|exact dq|fail) only [go_sem,Int.natCast_zero];first|done|rfl))
  intro x hx;simp at hx
 ·rintro ⟨fr,hp⟩ ⟨n,r8,r0,r1,r7,rh,hi,hP⟩
  dsimp only at r8 r0 r1 r7 rh hi hP
  subst rh
  by_cases hn:n<l.length
  ·have hlt:((n:Int)<(l.length:Int))=True:=eq_true (by omega)
   have hx:l[n]?=some l[n]:=List.getElem?_eq_getElem hn
   have had:=hR.addr (i:=(n:Int)) Fc.el35 Fc.ar35 (by omega) (by omega)
   rw [Int.toNat_natCast] at had
   have hld:=hR.load Fc.ty3 hx
   have hc:=fun base=>hg base l[n] (List.getElem_mem hn)
   cases hp:p l[n] with
   | true =>
    rw [hp] at hc
    have hsp:=@Nat.succ_ne_zero;repeat' (first|simp (disch:=first|exact dq|fail) only [go_sem,hsp,r8,r0,r1,r7,hlt,had,hld,hc]|refine WP_drw ?_|refine cnd_intro (fun hsp=>?_) fun hsp=>?_)
    rw [idx_hit p hn hP hp]
    all_goals (first|refine fI ?_|refine fB ?_|refine fII ?_ ?_|refine fBI ?_ ?_|refine fIII ?_ ?_ ?_|refine fIIB ?_ ?_ ?_|skip);all_goals (try dsimp only);all_goals (try with_reducible rfl);all_goals (try omega)
   | false =>
    rw [hp] at hc
    have hsp:=@Nat.succ_ne_zero;repeat' (first|simp (disch:=first|exact dq|fail) only [go_sem,hsp,r8,r0,r1,r7,hlt,had,hld,hc]|refine WP_drw ?_|refine cnd_intro (fun hsp=>?_) fun hsp=>?_)
    exact ⟨⟨n+1,by simp,by omega,take_next p hn hP hp⟩,by omega⟩
  ·have hlt:((n:Int)<(l.length:Int))=False:=eq_false (by omega)
   obtain rfl:n=l.length:=by omega
   have hsp:=@Nat.succ_ne_zero;repeat' (first|simp (disch:=first|exact dq|fail) only [go_sem,hsp,r8,r0,r1,r7,hlt]|refine WP_drw ?_|refine cnd_intro (fun hsp=>?_) fun hsp=>?_)
   rw [idx_miss p hP]
   all_goals (first|refine fI ?_|refine fB ?_|refine fII ?_ ?_|refine fBI ?_ ?_|refine fIII ?_ ?_ ?_|refine fIIB ?_ ?_ ?_|skip);all_goals (try dsimp only);all_goals (try with_reducible rfl);all_goals (try omega)
theorem anyF_I {base:Nat} {h:Heap} {v g:AVal} {l:List (Int)} (p:Int→Bool) (hR:Ints h v l) (hg:∀ base x,x ∈ l→callL prog raw base g [.int .i64 x] h=some (.bool (p x),h)) :
  callL prog raw base (.fn 76 [] []) [v,g] h=some (.bool (l.any p),h):=by
 have hi:=fun base=>idxF_I (base:=base) p hR hg
 have h0:=idx_any p l
 refine callL_run func76 rfl rfl ?_
 have hsp:=@Nat.succ_ne_zero;repeat' (first|simp (disch:=first|exact dq|fail) only [go_sem,hsp,hi]|refine WP_drw ?_|refine cnd_intro (fun hsp=>?_) fun hsp=>?_)
 refine fB ?_
 by_cases h1:l.any p=true
 ·rw [h1];simpa using h0.2 h1
 ·have h2:¬ 0≤idx p l:=fun h=>h1 (h0.1 h)
  simp only [Bool.not_eq_true] at h1
  rw [h1];simpa using h2
theorem not_I {base id:Nat} {h:Heap} {g:AVal} {x:Int} {b:Bool} (hid:h[id]?=some ⟨.cells [g] 132 false false,0⟩) (hg:∀ base T,callL prog raw base g [.int .i64 x] (h++T)=some (.bool b,h++T)) :
  callL prog raw base (.fn 182 [] [.ptr (some ⟨id,0,0⟩)]) [.int .i64 x] h=some (.bool (!b),h):=by
 have hgi:=lt_of_get hid
 have hg0:∀ base,callL prog raw base g [.int .i64 x] h=some (.bool b,h):=fun base=>by have:=hg base [];rwa [List.append_nil] at this
 refine callL_run func182 rfl rfl ?_
 have hsp:=@Nat.succ_ne_zero;repeat' (first|simp (disch:=first|exact dq|fail) only [go_sem,hsp,hid,hg,hg0]|refine WP_drw ?_|refine cnd_intro (fun hsp=>?_) fun hsp=>?_)
 exact fB rfl
theorem every_I {base:Nat} {h:Heap} {v g:AVal} {l:List (Int)} (p:Int→Bool) (hR:Ints h v l) (hg:∀ base T x,x ∈ l→callL prog raw base g [.int .i64 x] (h++T)=some (.bool (p x),h++T)) (h1:One g) :
  callL prog raw base (.fn 101 [] []) [v,g] h=some (.bool (l.all p),h):=by
 have hc:=fun base=>anyF_I (base:=base) (fun x=>!p x) hR.app (fun base x hx=>not_I (x:=x) (get_eq rfl) (fun base T=>by have:=hg base ([⟨.cells [g] 132 false false,0⟩]++T) x hx;rwa [← List.append_assoc] at this))
 refine callL_run func101 rfl rfl ?_
 have hsp:=@Nat.succ_ne_zero;repeat' (first|simp (disch:=first|exact dq|fail) only [go_sem,hsp,hc]|refine WP_drw ?_|refine cnd_intro (fun hsp=>?_) fun hsp=>?_)
 refine fB ?_
 rw [List.any_eq_not_all_not]
 simp
end F4
end Go.AM
namespace Go.AM
namespace F4
open Go.Proofs.Tryz
abbrev lomV (R T:Int) (pv sv:AVal):AVal:=.agg [.int .i64 R,.int .i64 T,pv,sv]
theorem run_inn {base:Nat} {h:Heap} {n lo hi:Int}:callL prog raw base (.fn 109 [] []) [.int .i64 n,.int .i64 lo,.int .i64 hi] h=some (.bool (decide (lo≤n∧n≤hi)),h):=by
 refine callL_run func109 rfl rfl ?_
 by_cases h1:lo≤n
 ·have t1:(n ≥ lo)=True:=eq_true h1
  have hsp:=@Nat.succ_ne_zero;repeat' (first|simp (disch:=first|exact dq|fail) only [go_sem,hsp,t1]|refine WP_drw ?_|refine cnd_intro (fun hsp=>?_) fun hsp=>?_)
  refine fB ?_
  simp [h1]
 ·have t1:(n ≥ lo)=False:=eq_false h1
  have hsp:=@Nat.succ_ne_zero;repeat' (first|simp (disch:=first|exact dq|fail) only [go_sem,hsp,t1]|refine WP_drw ?_|refine cnd_intro (fun hsp=>?_) fun hsp=>?_)
  refine fB ?_
  simp [h1]
attribute [go_sem] run_inn
theorem run_ribbon {base:Nat} {h:Heap} {R T n:Int} {pv sv:AVal} (hR:-1000≤R∧R≤1000):callL prog raw base (.fn 108 [] []) [lomV R T pv sv,.int .i64 n] h=some (.bool (decide (0≤n∧n≤R-1)),h):=by
 refine callL_run func108 rfl rfl ?_
 have hsp:=@Nat.succ_ne_zero;repeat' (first|simp (disch:=first|exact dq|fail) only [go_sem,hsp]|refine WP_drw ?_|refine cnd_intro (fun hsp=>?_) fun hsp=>?_)
 exact fB rfl
theorem run_ribbon' {base:Nat} {h:Heap} {R T n:Int} {pv sv:AVal} (hR:-1000≤R∧R≤1000):callL prog raw base (.fn 108 [lomV R T pv sv] []) [.int .i64 n] h=some (.bool (decide (0≤n∧n≤R-1)),h):=by
 refine callL_run func108 rfl rfl ?_
 have hsp:=@Nat.succ_ne_zero;repeat' (first|simp (disch:=first|exact dq|fail) only [go_sem,hsp]|refine WP_drw ?_|refine cnd_intro (fun hsp=>?_) fun hsp=>?_)
 exact fB rfl
theorem run_throw {base:Nat} {h:Heap} {R T n:Int} {pv sv:AVal} (hT:-1000≤T∧T≤1000):callL prog raw base (.fn 116 [] []) [lomV R T pv sv,.int .i64 n] h=some (.bool (decide (0≤n∧n≤T-1)),h):=by
 refine callL_run func116 rfl rfl ?_
 have hsp:=@Nat.succ_ne_zero;repeat' (first|simp (disch:=first|exact dq|fail) only [go_sem,hsp]|refine WP_drw ?_|refine cnd_intro (fun hsp=>?_) fun hsp=>?_)
 exact fB rfl
attribute [go_sem] run_ribbon run_ribbon' run_throw
theorem run_chk1 {base:Nat} {h:Heap} {p:PrtV} {l:List Int} (hI:Ints h p.v l):callL prog raw base (.fn 111 [] []) [.agg (encP.cells p)] h=some (.bool (decide (0<l.length)),h):=by
 have hn:=norm_one hI.one
 have hl:=hI.1.1
 simp only [encP,hn]
 refine callL_run func111 rfl rfl ?_
 have hsp:=@Nat.succ_ne_zero;repeat' (first|simp (disch:=first|exact dq|fail) only [go_sem,hsp]|refine WP_drw ?_|refine cnd_intro (fun hsp=>?_) fun hsp=>?_)
 refine fB (dec_eq ?_)
 omega
theorem run_chk2 {base:Nat} {h:Heap} {p:PrtV} (_hp:p.each≤p.each):callL prog raw base (.fn 112 [] []) [.agg (encP.cells p)] h=some (.bool (decide ((1≤p.each∧p.each≤4)∧(0≤p.ph∧p.ph≤p.each-1))),h):=by
 simp only [encP]
 refine callL_run func112 rfl rfl ?_
 by_cases h1:1≤p.each∧p.each≤4
 ·have t1:(1≤p.each∧p.each≤4)=True:=eq_true h1
  have hsp:=@Nat.succ_ne_zero;repeat' (first|simp (disch:=first|exact dq|fail) only [go_sem,hsp,t1]|refine WP_drw ?_|refine cnd_intro (fun hsp=>?_) fun hsp=>?_)
  refine fB ?_
  simp [h1]
 ·have t1:(1≤p.each∧p.each≤4)=False:=eq_false h1
  have hsp:=@Nat.succ_ne_zero;repeat' (first|simp (disch:=first|exact dq|fail) only [go_sem,hsp,t1]|refine WP_drw ?_|refine cnd_intro (fun hsp=>?_) fun hsp=>?_)
  refine fB ?_
  simp [h1]
theorem run_chk6 {base:Nat} {h:Heap} {s:Sgt}:callL prog raw base (.fn 119 [] []) [.agg (encS.cells s)] h=some (.bool (decide (s.lo≤s.hi)),h):=by
 simp only [encS]
 refine callL_run func119 rfl rfl ?_
 have hsp:=@Nat.succ_ne_zero;repeat' (first|simp (disch:=first|exact dq|fail) only [go_sem,hsp]|refine WP_drw ?_|refine cnd_intro (fun hsp=>?_) fun hsp=>?_)
 exact fB rfl
end F4
end Go.AM
namespace Go.AM
namespace F4
open Go.Proofs.Tryz
theorem run_rising {base:Nat} {h:Heap} {v:AVal} {l:List Int} (hI:Ints h v l) (hs:Small l):callL prog raw base (.fn 118 [] []) [v] h=some (.bool (riseB l),h):=by
 have hc:=fun base=>run_clone (base:=base) hI hs
 refine callL_run func118 rfl rfl ?_
 cases hso:sortB l with
 | false =>
  have hr:riseB l=false:=by
   unfold sortB at hso
   refine decide_eq_false fun hh=>of_decide_eq_false hso fun i h1 h2=>?_
   have:=hh i h1 h2
   omega
  have hsp:=@Nat.succ_ne_zero;repeat' (first|simp (disch:=first|exact dq|fail) only [go_sem,hsp,hso]|refine WP_drw ?_|refine cnd_intro (fun hsp=>?_) fun hsp=>?_)
  exact fB hr.symm
 | true =>
  have hso2:=of_decide_eq_true hso
  have key:nodup l ↔ riseB l=true:=by
   unfold riseB nodup
   rw [decide_eq_true_iff]
   exact ⟨fun hd i h1 h2=>by have:=hd i h1 h2;have:=hso2 i h1 h2;omega,fun hh i h1 h2=>by have:=hh i h1 h2;omega⟩
  by_cases hz:nilB v=true ∨ l=[]
  ·have hl0:l=[]:=hz.elim (fun hn=>(hI.nilB_nil hn).2) id
   subst hl0
   have hic:Ints h (cloneV v h.length []) []:=by have:=cloneV_ints hI hs;simpa [cloneH,newH_nil] using this
   obtain ⟨cv,CH,ce,hv1,hv2⟩:=run_compact0 (base:=h.length) hic (by simp)
   rw [hv1,hv2] at ce
   have hce:h++cloneH v []=h:=by simp [cloneH,newH_nil]
   rw [hce] at hc
   have hrz:riseB []=true:=rfl
   have hsp:=@Nat.succ_ne_zero;repeat' (first|simp (disch:=first|exact dq|fail) only [go_sem,hsp,hso,hc,ce,lenI hic,lenI hI,List.length_nil,Int.natCast_zero]|refine WP_drw ?_|refine cnd_intro (fun hsp=>?_) fun hsp=>?_)
   exact fB hrz.symm
  ·have hne:l ≠ []:=fun e=>hz (.inr e)
   have hnb:nilB v=false:=by simpa using fun e=>hz (.inl e)
   have e1:∀ n,cloneV v n l=.slice (some ⟨n,0,0⟩) l.length l.length:=fun n=>by rw [cloneV,if_neg (by simp [hnb]),newV_ne hne]
   have e2:cloneH v l=[rowB l 0]:=by rw [cloneH,if_neg (by simp [hnb]),newH_ne hne]
   rw [e1,e2] at hc
   obtain ⟨cv,CH,ce,k,m,rfl,rfl,hm,hk,hiff⟩:=run_compact (base:=h.length) (h:=h++[rowB l 0]) (id:=h.length) (get_eq rfl) hs
   have hIm:Ints ((h++[rowB l 0]).set h.length (rowB m 0)) v l:=by rw [set_eq rfl];exact hI.app
   have hsp:=@Nat.succ_ne_zero;repeat' (first|simp (disch:=first|exact dq|fail) only [go_sem,hsp,hso,hc,ce,Fc.ln35,lenI hIm]|refine WP_drw ?_|refine cnd_intro (fun hsp=>?_) fun hsp=>?_)
   refine fB ?_ ?_
   ·by_cases hd:nodup l
    ·rw [key.1 hd]
     have:=hiff.2 hd
     first|exact decide_eq_true (by omega)|(simp;omega)
    ·have hf:riseB l=false:=by cases hb:riseB l with|false=>rfl|true=>exact absurd (key.2 hb) hd
     rw [hf]
     have:¬ k=l.length:=fun e=>hd (hiff.1 e)
     first|exact decide_eq_false (by omega)|(simp;omega)
   ·first|exact Ext.app .refl|(rw [set_eq rfl];exact Ext.app .refl)|exact Ext.set (Ext.app .refl) (Nat.le_refl _)
attribute [go_sem] run_rising
end F4
end Go.AM
namespace Go.AM
namespace F4
open Go.Proofs.Tryz
theorem ints_inj:∀ {l m:List Int},ints l=ints m→l=m
 | [],[],_=>rfl
 | [],_ :: _,h=>by cases h
 | _ :: _,[],h=>by cases h
 | x :: l,y :: m,h=>by
  have h1:AVal.int .i64 x=.int .i64 y∧ints l=ints m:=List.cons.inj h
  have h2:x=y:=by have:=h1.1;injection this
  rw [h2,ints_inj h1.2]
theorem ints_uniq {h:Heap} {v:AVal} {l m:List Int} (a:Ints h v l) (b:Ints h v m):l=m:=by
 rcases a.2 with ⟨rfl,rfl⟩|⟨rfl,rfl⟩|⟨r,k,c,e,row,ro,rfl,h1,h2,_⟩
 ·rcases b.2 with ⟨_,rfl⟩|⟨hc,_⟩|⟨r,k,c,e,row,ro,hc,_⟩
  ·rfl
  ·cases hc
  ·cases hc
 ·rcases b.2 with ⟨hc,_⟩|⟨_,rfl⟩|⟨r,k,c,e,row,ro,hc,_⟩
  ·cases hc
  ·rfl
  ·cases hc
 ·rcases b.2 with ⟨hc,_⟩|⟨hc,_⟩|⟨r',k',c',e',row',ro',hc,g1,g2,_⟩
  ·cases hc
  ·cases hc
  ·simp only [AVal.slice.injEq,Option.some.injEq] at hc
   obtain ⟨rfl,hlen,_⟩:=hc
   rw [h1] at g1
   cases g1
   refine ints_inj ?_
   rw [← h2,← g2,hlen]
open Classical in
noncomputable def rbOf (h:Heap) (x:PrtV):List Int:=if hx:∃ l,Ints h x.v l then Classical.choose hx else []
theorem rbOf_eq {h:Heap} {x:PrtV} {l:List Int} (a:Ints h x.v l):rbOf h x=l:=by
 have hx:∃ l,Ints h x.v l:=⟨l,a⟩
 unfold rbOf
 rw [dif_pos hx]
 exact ints_uniq (Classical.choose_spec hx) a
noncomputable def toPrt (h:Heap) (x:PrtV):Prt:=⟨rbOf h x,x.each,x.ph,x.wv⟩
theorem Parts.map {h:Heap} {ps:List Prt} {vs:List PrtV} (h2:vs.length=ps.length) (h3:∀ (i:Nat) x p,vs[i]?=some x→ps[i]?=some p→Ints h x.v p.rib∧x.each=p.each∧x.ph=p.ph∧x.wv=p.wv):vs.map (toPrt h)=ps∧∀ x ∈ vs,Ints h x.v (toPrt h x).rib:=by
 have key:∀ (i:Nat) x p,vs[i]?=some x→ps[i]?=some p→toPrt h x=p∧Ints h x.v (toPrt h x).rib:=fun i x p a b=>by
  obtain ⟨q1,q2,q3,q4⟩:=h3 i x p a b
  have e:=rbOf_eq q1
  refine ⟨?_,by show Ints h x.v (rbOf h x);rw [e];exact q1⟩
  unfold toPrt
  rw [e,q2,q3,q4]
 refine ⟨List.ext_getElem (by rw [List.length_map,h2]) fun i a b=>?_,fun x hx=>?_⟩
 ·rw [List.getElem_map]
  have a':i<vs.length:=by simpa using a
  exact (key i _ _ (List.getElem?_eq_getElem a') (List.getElem?_eq_getElem b)).1
 ·obtain ⟨i,hi,rfl⟩:=List.getElem_of_mem hx
  exact (key i _ _ (List.getElem?_eq_getElem hi) (List.getElem?_eq_getElem (by omega))).2
def chkM (L:Lom):Int :=
 if ¬ (1≤L.R∧L.R≤6) ∨ ¬ (1≤L.T∧L.T≤12) ∨ ¬ (1≤(L.ps.length:Int)∧(L.ps.length:Int)≤6) ∨ (L.ss.length:Int) > 10 ∨ ¬ (L.ps.all fun p=>decide (0<p.rib.length))=true then 2 else
 if ¬ (L.ps.all fun p=>decide ((1≤p.each∧p.each≤4)∧(0≤p.ph∧p.ph≤p.each-1)))=true then 3 else
 if ¬ (L.ps.all fun p=>p.rib.all fun r=>decide (0≤r∧r≤L.R-1))=true ∨ ¬ (L.ss.all fun s=>decide ((0≤s.rib∧s.rib≤L.R-1)∧(0≤s.lo∧s.lo≤L.T-1)∧(0≤s.hi∧s.hi≤L.T-1)))=true then 1 else
 if ¬ (L.ps.all fun p=>riseB p.rib)=true ∨ ¬ (L.ss.all fun s=>decide (s.lo≤s.hi))=true then 4 else 0
theorem run_chk5 {base:Nat} {h:Heap} {p:PrtV} {l:List Int} (hI:Ints h p.v l) (hs:Small l):callL prog raw base (.fn 117 [] []) [.agg (encP.cells p)] h=some (.bool (riseB l),h):=by
 have hn:=norm_one hI.one
 simp only [encP,hn]
 refine callL_run func117 rfl rfl ?_
 have hsp:=@Nat.succ_ne_zero;repeat' (first|simp (disch:=first|exact dq|fail) only [go_sem,hsp]|refine WP_drw ?_|refine cnd_intro (fun hsp=>?_) fun hsp=>?_)
 exact fB rfl
theorem run_chk3 {base id:Nat} {h:Heap} {p:PrtV} {l:List Int} {R T:Int} {pv sv:AVal} (hI:Ints h p.v l) (hR:-1000≤R∧R≤1000) (hid:h[id]?=some ⟨.cells [.fn 108 [lomV R T pv sv] []] 132 false false,0⟩):callL prog raw base (.fn 113 [] [.ptr (some ⟨id,0,0⟩)]) [.agg (encP.cells p)] h=some (.bool (l.all fun r=>decide (0≤r∧r≤R-1)),h):=by
 have hn:=norm_one hI.one
 have hlt:=lt_of_get hid
 simp only [encP,hn]
 have he:∀ {base:Nat} {T':Heap},callL prog raw base (.fn 101 [] []) [p.v,.fn 108 [lomV R T pv sv] []] (h++T')=some (.bool (l.all fun r=>decide (0≤r∧r≤R-1)),h++T'):=fun {base T'}=>every_I _ hI.app (fun base T x _=>run_ribbon' hR) ⟨rfl,rfl,rfl⟩
 refine callL_run func113 rfl rfl ?_
 have hsp:=@Nat.succ_ne_zero;repeat' (first|simp (disch:=first|exact dq|fail) only [go_sem,hsp,hid,he]|refine WP_drw ?_|refine cnd_intro (fun hsp=>?_) fun hsp=>?_)
 exact fB rfl
theorem run_chk4 {base id id2:Nat} {h:Heap} {s:Sgt} {R T R' T':Int} {pv sv pv' sv':AVal} (hR:-1000≤R∧R≤1000) (hT:-1000≤T'∧T'≤1000) (hid:h[id]?=some ⟨.cells [.fn 108 [lomV R T pv sv] []] 132 false false,0⟩)
  (hid2:h[id2]?=some ⟨.cells [.int .i64 R',.int .i64 T',pv',sv'] 62 false false,0⟩):callL prog raw base (.fn 115 [] [.ptr (some ⟨id,0,0⟩),.ptr (some ⟨id2,0,0⟩)]) [.agg (encS.cells s)] h=some (.bool (decide ((0≤s.rib∧s.rib≤R-1)∧(0≤s.lo∧s.lo≤T'-1)∧(0≤s.hi∧s.hi≤T'-1))),h):=by
 have hlt:=lt_of_get hid
 have hlt2:=lt_of_get hid2
 simp only [encS]
 refine callL_run func115 rfl rfl ?_
 by_cases h1:0≤s.rib∧s.rib≤R-1
 ·have t1:(0≤s.rib∧s.rib≤R-1)=True:=eq_true h1
  by_cases h2:0≤s.lo∧s.lo≤T'-1
  ·have t2:(0≤s.lo∧s.lo≤T'-1)=True:=eq_true h2
   have hsp:=@Nat.succ_ne_zero;repeat' (first|simp (disch:=first|exact dq|fail) only [go_sem,hsp,hid,hid2,t1,t2]|refine WP_drw ?_|refine cnd_intro (fun hsp=>?_) fun hsp=>?_)
   refine fB ?_
   simp [h1,h2]
  ·have t2:(0≤s.lo∧s.lo≤T'-1)=False:=eq_false h2
   have hsp:=@Nat.succ_ne_zero;repeat' (first|simp (disch:=first|exact dq|fail) only [go_sem,hsp,hid,hid2,t1,t2]|refine WP_drw ?_|refine cnd_intro (fun hsp=>?_) fun hsp=>?_)
   refine fB ?_
   simp [h1,h2]
 ·have t1:(0≤s.rib∧s.rib≤R-1)=False:=eq_false h1
  have hsp:=@Nat.succ_ne_zero;repeat' (first|simp (disch:=first|exact dq|fail) only [go_sem,hsp,hid,hid2,t1]|refine WP_drw ?_|refine cnd_intro (fun hsp=>?_) fun hsp=>?_)
  refine fB ?_
  simp [h1]
end F4
end Go.AM
namespace Go.AM
namespace F4
open Go.Proofs.Tryz
theorem run_check {base:Nat} {h:Heap} {v:AVal} {L:Lom} (hL:LomAt h v L) (hsm:∀ p ∈ L.ps,Small p.rib) (hpl:L.ps.length≤1048576) (hsl:L.ss.length≤1048576) (hea:∀ p ∈ L.ps,p.each≤p.each) :
  callL prog raw base (.fn 39 [] []) [v] h=some (.int .i64 (chkM L),h):=by
 obtain ⟨pv,sv,rfl,⟨vs,hR,h2,h3⟩,hS⟩:=hL
 obtain ⟨hmap,hri⟩:=Parts.map h2 h3
 have hmem:∀ x ∈ vs,toPrt h x ∈ L.ps:=fun x hx=>by rw [← hmap];exact List.mem_map_of_mem hx
 obtain ⟨T1,eT1⟩:∃ T1:Heap,T1=[⟨.cells [.int .i64 L.R,.int .i64 L.T,pv,sv] 62 false false,0⟩]++[⟨.cells [.fn 108 [lomV L.R L.T pv sv] []] 132 false false,0⟩]:=⟨_,rfl⟩
 have eH:h++[⟨.cells [.int .i64 L.R,.int .i64 L.T,pv,sv] 62 false false,0⟩]++[⟨.cells [.fn 108 [lomV L.R L.T pv sv] []] 132 false false,0⟩]=h++T1:=by rw [eT1,List.append_assoc]
 have g0:(h++T1)[h.length]?=some ⟨.cells [.int .i64 L.R,.int .i64 L.T,pv,sv] 62 false false,0⟩:=by rw [← eH];exact get_app (get_eq rfl)
 have g1:(h++T1)[h.length+1]?=some ⟨.cells [.fn 108 [lomV L.R L.T pv sv] []] 132 false false,0⟩:=by rw [← eH];exact get_eq (by simp)
 have e1:∀ {base:Nat},callL prog raw base (.fn 110 [] []) [pv,.fn 111 [] []] (h++T1)=some (.bool (L.ps.all fun p=>decide (0<p.rib.length)),h++T1):=fun {base}=>by
  rw [← hmap,List.all_map]
  exact every_P _ hR.app (fun base T x hx=>run_chk1 (hri x hx).app.app) ⟨rfl,rfl,rfl⟩
 have e2:∀ {base:Nat},callL prog raw base (.fn 110 [] []) [pv,.fn 112 [] []] (h++T1)=some (.bool (L.ps.all fun p=>decide ((1≤p.each∧p.each≤4)∧(0≤p.ph∧p.ph≤p.each-1))),h++T1):=fun {base}=>by
  rw [← hmap,List.all_map]
  exact every_P _ hR.app (fun base T x hx=>run_chk2 (hea _ (hmem x hx))) ⟨rfl,rfl,rfl⟩
 have e5:∀ {base:Nat},callL prog raw base (.fn 110 [] []) [pv,.fn 117 [] []] (h++T1)=some (.bool (L.ps.all fun p=>riseB p.rib),h++T1):=fun {base}=>by
  rw [← hmap,List.all_map]
  exact every_P _ hR.app (fun base T x hx=>run_chk5 (hri x hx).app.app (hsm _ (hmem x hx))) ⟨rfl,rfl,rfl⟩
 have e6:∀ {base:Nat},callL prog raw base (.fn 114 [] []) [sv,.fn 119 [] []] (h++T1)=some (.bool (L.ss.all fun s=>decide (s.lo≤s.hi)),h++T1):=fun {base} =>
  every_S _ hS.app (fun base T x hx=>run_chk6) ⟨rfl,rfl,rfl⟩
 have hlp:=(hR.app (T:=T1)).len (P:=prog) Fc.el59
 have hls:=(hS.app (T:=T1)).len (P:=prog) Fc.el60
 rw [h2] at hlp
 have hop:=hR.one
 have hos:=hS.one
 refine callL_run func39 rfl rfl ?_
 by_cases c1:1≤L.R∧L.R≤6
 ·have t1:(1≤L.R∧L.R≤6)=True:=eq_true c1
  by_cases c2:1≤L.T∧L.T≤12
  ·have t2:(1≤L.T∧L.T≤12)=True:=eq_true c2
   by_cases c3:1≤(L.ps.length:Int)∧(L.ps.length:Int)≤6
   ·have t3:(1≤(L.ps.length:Int)∧(L.ps.length:Int)≤6)=True:=eq_true c3
    by_cases c4:(L.ss.length:Int) > 10
    ·have t4:((L.ss.length:Int) > 10)=True:=eq_true c4
     have r:chkM L=2:=by unfold chkM;rw [if_pos (.inr (.inr (.inr (.inl c4))))]
     rw [r]
     have hsp:=@Nat.succ_ne_zero;repeat' (first|simp (disch:=first|exact dq|fail) only [go_sem,hsp,t1,t2,t3,t4,eH,g0,g1,hlp,hls]|refine WP_drw ?_|refine cnd_intro (fun hsp=>?_) fun hsp=>?_)
     exact fI rfl
    ·have t4:((L.ss.length:Int) > 10)=False:=eq_false c4
     have e3:∀ {base:Nat},callL prog raw base (.fn 110 [] []) [pv,.fn 113 [] [.ptr (some ⟨h.length+1,0,0⟩)]] (h++T1)=some (.bool (L.ps.all fun p=>p.rib.all fun r=>decide (0≤r∧r≤L.R-1)),h++T1):=fun {base}=>by
      rw [← hmap,List.all_map]
      exact every_P _ hR.app (fun base T x hx=>run_chk3 (hri x hx).app.app (by omega) (get_app g1)) ⟨rfl,rfl,rfl⟩
     have e4:∀ {base:Nat},callL prog raw base (.fn 114 [] []) [sv,.fn 115 [] [.ptr (some ⟨h.length+1,0,0⟩),.ptr (some ⟨h.length,0,0⟩)]] (h++T1)=some (.bool (L.ss.all fun s=>decide ((0≤s.rib∧s.rib≤L.R-1)∧(0≤s.lo∧s.lo≤L.T-1)∧(0≤s.hi∧s.hi≤L.T-1))),h++T1):=fun {base} =>
      every_S _ hS.app (fun base T x hx=>run_chk4 (by omega) (by omega) (get_app g1) (get_app g0)) ⟨rfl,rfl,rfl⟩
     have n0:¬ (¬ (1≤L.R∧L.R≤6) ∨ ¬ (1≤L.T∧L.T≤12) ∨ ¬ (1≤(L.ps.length:Int)∧(L.ps.length:Int)≤6) ∨ (L.ss.length:Int) > 10 ∨ ¬ (L.ps.all fun p=>decide (0<p.rib.length))=true) ↔ (L.ps.all fun p=>decide (0<p.rib.length))=true:=by
      constructor
      ·exact fun hh=>Classical.byContradiction fun hn=>hh (.inr (.inr (.inr (.inr hn))))
      ·rintro hb (q|q|q|q|q)
       ·exact q c1
       ·exact q c2
       ·exact q c3
       ·exact c4 q
       ·exact q hb
     cases b1:(L.ps.all fun p=>decide (0<p.rib.length)) with
     | false =>
      have r:chkM L=2:=by unfold chkM;rw [if_pos (.inr (.inr (.inr (.inr (by rw [b1];decide)))))]
      rw [b1] at e1
      rw [r]
      have hsp:=@Nat.succ_ne_zero;repeat' (first|simp (disch:=first|exact dq|fail) only [go_sem,hsp,t1,t2,t3,t4,eH,g0,g1,hlp,hls,e1]|refine WP_drw ?_|refine cnd_intro (fun hsp=>?_) fun hsp=>?_)
      exact fI rfl
     | true =>
      rw [b1] at e1
      cases b2:(L.ps.all fun p=>decide ((1≤p.each∧p.each≤4)∧(0≤p.ph∧p.ph≤p.each-1))) with
      | false =>
       have r:chkM L=3:=by unfold chkM;rw [if_neg (n0.2 b1),if_pos (by rw [b2];decide)]
       rw [b2] at e2
       rw [r]
       have hsp:=@Nat.succ_ne_zero;repeat' (first|simp (disch:=first|exact dq|fail) only [go_sem,hsp,t1,t2,t3,t4,eH,g0,g1,hlp,hls,e1,e2]|refine WP_drw ?_|refine cnd_intro (fun hsp=>?_) fun hsp=>?_)
       exact fI rfl
      | true =>
       rw [b2] at e2
       cases b3:(L.ps.all fun p=>p.rib.all fun r=>decide (0≤r∧r≤L.R-1)) with
       | false =>
        have r:chkM L=1:=by unfold chkM;rw [if_neg (n0.2 b1),if_neg (by rw [b2];decide),if_pos (.inl (by rw [b3];decide))]
        rw [b3] at e3
        rw [r]
        have hsp:=@Nat.succ_ne_zero;repeat' (first|simp (disch:=first|exact dq|fail) only [go_sem,hsp,t1,t2,t3,t4,eH,g0,g1,hlp,hls,e1,e2,e3]|refine WP_drw ?_|refine cnd_intro (fun hsp=>?_) fun hsp=>?_)
        exact fI rfl
       | true =>
        rw [b3] at e3
        cases b4:(L.ss.all fun s=>decide ((0≤s.rib∧s.rib≤L.R-1)∧(0≤s.lo∧s.lo≤L.T-1)∧(0≤s.hi∧s.hi≤L.T-1))) with
        | false =>
         have r:chkM L=1:=by unfold chkM;rw [if_neg (n0.2 b1),if_neg (by rw [b2];decide),if_pos (.inr (by rw [b4];decide))]
         rw [b4] at e4
         rw [r]
         have hsp:=@Nat.succ_ne_zero;repeat' (first|simp (disch:=first|exact dq|fail) only [go_sem,hsp,t1,t2,t3,t4,eH,g0,g1,hlp,hls,e1,e2,e3,e4]|refine WP_drw ?_|refine cnd_intro (fun hsp=>?_) fun hsp=>?_)
         exact fI rfl
        | true =>
         rw [b4] at e4
         cases b5:(L.ps.all fun p=>riseB p.rib) with
         | false =>
          have r:chkM L=4:=by unfold chkM;rw [if_neg (n0.2 b1),if_neg (by rw [b2];decide),if_neg (by rw [b3,b4];decide),if_pos (.inl (by rw [b5];decide))]
          rw [b5] at e5
          rw [r]
          have hsp:=@Nat.succ_ne_zero;repeat' (first|simp (disch:=first|exact dq|fail) only [go_sem,hsp,t1,t2,t3,t4,eH,g0,g1,hlp,hls,e1,e2,e3,e4,e5]|refine WP_drw ?_|refine cnd_intro (fun hsp=>?_) fun hsp=>?_)
          exact fI rfl
         | true =>
          rw [b5] at e5
          cases b6:(L.ss.all fun s=>decide (s.lo≤s.hi)) with
          | false =>
           have r:chkM L=4:=by unfold chkM;rw [if_neg (n0.2 b1),if_neg (by rw [b2];decide),if_neg (by rw [b3,b4];decide),if_pos (.inr (by rw [b6];decide))]
           rw [b6] at e6
           rw [r]
           have hsp:=@Nat.succ_ne_zero;repeat' (first|simp (disch:=first|exact dq|fail) only [go_sem,hsp,t1,t2,t3,t4,eH,g0,g1,hlp,hls,e1,e2,e3,e4,e5,e6]|refine WP_drw ?_|refine cnd_intro (fun hsp=>?_) fun hsp=>?_)
           exact fI rfl
          | true =>
           rw [b6] at e6
           have r:chkM L=0:=by unfold chkM;rw [if_neg (n0.2 b1),if_neg (by rw [b2];decide),if_neg (by rw [b3,b4];decide),if_neg (by rw [b5,b6];decide)]
           rw [r]
           have hsp:=@Nat.succ_ne_zero;repeat' (first|simp (disch:=first|exact dq|fail) only [go_sem,hsp,t1,t2,t3,t4,eH,g0,g1,hlp,hls,e1,e2,e3,e4,e5,e6]|refine WP_drw ?_|refine cnd_intro (fun hsp=>?_) fun hsp=>?_)
           exact fI rfl
   ·have t3:(1≤(L.ps.length:Int)∧(L.ps.length:Int)≤6)=False:=eq_false c3
    have r:chkM L=2:=by unfold chkM;rw [if_pos (.inr (.inr (.inl c3)))]
    rw [r]
    have hsp:=@Nat.succ_ne_zero;repeat' (first|simp (disch:=first|exact dq|fail) only [go_sem,hsp,t1,t2,t3,eH,g0,g1,hlp,hls]|refine WP_drw ?_|refine cnd_intro (fun hsp=>?_) fun hsp=>?_)
    exact fI rfl
  ·have t2:(1≤L.T∧L.T≤12)=False:=eq_false c2
   have r:chkM L=2:=by unfold chkM;rw [if_pos (.inr (.inl c2))]
   rw [r]
   have hsp:=@Nat.succ_ne_zero;repeat' (first|simp (disch:=first|exact dq|fail) only [go_sem,hsp,t1,t2,eH,g0,g1]|refine WP_drw ?_|refine cnd_intro (fun hsp=>?_) fun hsp=>?_)
   exact fI rfl
 ·have t1:(1≤L.R∧L.R≤6)=False:=eq_false c1
  have r:chkM L=2:=by unfold chkM;rw [if_pos (.inl c1)]
  rw [r]
  have hsp:=@Nat.succ_ne_zero;repeat' (first|simp (disch:=first|exact dq|fail) only [go_sem,hsp,t1,eH,g0,g1]|refine WP_drw ?_|refine cnd_intro (fun hsp=>?_) fun hsp=>?_)
  exact fI rfl
end F4
end Go.AM
