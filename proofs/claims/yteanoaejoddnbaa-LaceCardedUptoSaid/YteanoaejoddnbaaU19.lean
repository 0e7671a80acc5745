/-
  Contracts of package card: the chain with the fewest cards; what a Round chain needs.
-/
import Derived.Test.YteanoaejoddnbaaU18
import Derived.Test.YteanoaejoddnbaaU8
import Derived.Test.YteanoaejoddnbaaU0
import Derived.Shelf.Spec.SlicesInsert
import Derived.Shelf.Spec.SlicesInsertGrow
import Derived.Test.YteanoaejoddnbaaU17
import Derived.Test.YteanoaejoddnbaaU14
import Derived.Test.YteanoaejoddnbaaU12
set_option linter.unusedSimpArgs false
set_option linter.unusedVariables false
namespace Go.AM
open Go.Proofs.Try
attribute [-go_sem] put_ne put_same
attribute [local go_sem ↓] put_if
theorem few_bd {w:Nat} {l:List Int} (ok:PapOk w l):1≤(fewestS w l).2.1∧(fewestS w l).2.1≤l.length:=by
 obtain ⟨m,j,h1,h2⟩:=fewN_some ok
 have hm:=(fndI_is h1).1
 have:fewestS w l=(planK j,(m:Int)+1,planT j):=by
  unfold fewestS
  rw [h1]
  simp only [h2]
 rw [this]
 dsimp only;omega
theorem pap_small {w:Nat} {l:List Int} (ok:PapOk w l):Small l:=by
 have hw:=ok.hw
 have hn:=ok.hn
 have hp:2 ^ w≤256:=by have:=Nat.pow_le_pow_right (show 0<2 by decide) hw.2;simpa using this
 exact ⟨by omega,fun x hx=>by have:=ok.hc x hx;omega⟩
theorem fndI_le {p:Nat→Bool} {n m t:Nat} (h:fndI p n=some m) (ht:p t=true):m≤t:=by
 refine Nat.le_of_not_lt fun q=>?_
 have:=(fndI_is h).2.2 t q
 rw [ht] at this;cases this
theorem few_only {w m:Nat} {l:List Int} (ok:PapOk w l) (h:onlI w l 0 0=some m):(fewestS w l).2.1≤(m:Int)+1:=by
 obtain ⟨m',j,h1,h2⟩:=fewN_some ok
 have e:fewestS w l=(planK j,(m':Int)+1,planT j):=by
  unfold fewestS
  rw [h1]
  simp only [h2]
 have hp:=(fndI_is h).2.1
 have:(fewJ w l (m+1)).isSome=true:=by
  cases q:fewJ w l (m+1) with
  | some _=>rfl
  | none =>
   have:=fndI_not q 0 (by omega)
   unfold okP at this
   rw [show (planK 0).toNat=0 from rfl,show (planT 0).toNat=0 from rfl,hp] at this
   cases this
 have:=fndI_le h1 this
 rw [e];dsimp only;omega
theorem only_le {w n:Nat} {W:List Int} (hw:1≤w∧w≤8) (hl:1≤W.length∧W.length≤48) (hC:Crds w W) (hn:1≤n∧n≤48) {m:Nat} (h:onlI w (wvC W n) 0 0=some m):m+1≤W.length:=by
 have hlen:(wvC W n).length=n:=lst_len
 by_cases c:W.length≤n
 ·have hp:(!(fstS w (wvC W n) 0 (W.length-1+1) 0).2.2)=true:=by
   rw [show W.length-1+1=W.length by omega]
   unfold fstS
   rw [fndI_none fun t ht=>?_]
   ·rfl
   ·rw [hlen] at ht
    have hm:=Nat.mod_lt t (show W.length > 0 by omega)
    have e1:(wvC W n).getD (t % W.length) 0=W.getD (t % W.length) 0:=by
     unfold wvC;rw [lst_get (by omega),Nat.mod_mod]
    have e2:(wvC W n).getD t 0=W.getD (t % W.length) 0:=by unfold wvC;rw [lst_get ht]
    have hx:=hC _ (getD_mem' (d:=(0:Int)) hm)
    unfold offN cdN mvN
    rw [if_neg (by omega),if_neg (by omega),if_neg (by omega),e1,e2,rt0 (by omega)]
    exact decide_eq_false (by omega)
  have:=fndI_le h hp
  omega
 ·have:=(fndI_is h).1
  omega
theorem wvC_ok {w n:Nat} {W:List Int} (hw:1≤w∧w≤8) (hl:1≤W.length∧W.length≤48) (hC:Crds w W) (hn:1≤n∧n≤48):PapOk w (wvC W n):=by
 refine ⟨hw,by unfold wvC;rw [lst_len];exact hn,fun x hx=>?_⟩
 obtain ⟨t,ht,e⟩:=List.mem_iff_getElem.1 hx
 have hlen:(wvC W n).length=n:=lst_len
 rw [← getD_at (d:=(0:Int)) ht] at e
 unfold wvC at e
 rw [lst_get (by omega)] at e
 rw [← e]
 exact hC _ (getD_mem' (d:=(0:Int)) (Nat.mod_lt t (by omega)))
theorem nil_of_nilB {h:Heap} {v:AVal} {l:List Int} (hI:Ints h v l) (hl:l ≠ []):nilB v=false:=by
 cases hn:nilB v with
 | false=>rfl
 | true=>exact absurd (hI.nilB_nil hn).2 hl
theorem run_FewestC {base:Nat} {h:Heap} {v:AVal} {l:List Int} {w:Nat} (hI:Ints h v l) (ok:PapOk w l) :
  ∃ (k s:Int) (c:Nat),(c:Int)=(fewestS w l).2.1∧callL prog raw base (.fn 85 [] []) [papV (w:Int) v] h=some (.tuple [chV (w:Int) (.slice (some ⟨h.length,0,0⟩) c c) k s,.int .i64 0],h++[rowB (l.take c) 0]):=by
 have ov:=hI.one
 obtain ⟨b1,b2⟩:=few_bd ok
 obtain ⟨k,n,s,ef⟩:∃ k n s,fewestS w l=(k,n,s):=⟨_,_,_,rfl⟩
 rw [ef] at b1 b2
 obtain ⟨c,ec⟩:=Int.eq_ofNat_of_zero_le (show 0≤n by dsimp only at b1;omega)
 subst ec
 dsimp only at b1 b2
 have hcl:(l.take c).length=c:=by rw [List.length_take];omega
 have hne:l.take c ≠ []:=fun q=>by rw [q] at hcl;simp at hcl;omega
 have hs:=pap_small ok
 have hts:Small (l.take c):=⟨by rw [hcl];have:=hs.1;omega,fun x hx=>hs.2 x (List.mem_of_mem_take hx)⟩
 obtain ⟨A,eA⟩:∃ A,A=h++[paB (w:Int) v]++[⟨.cells [.int .i64 0,.slice none 0 0,.int .i64 0,.int .i64 0] 111 false false,0⟩]:=⟨_,rfl⟩
 have xA:Ext h A:=by rw [eA];exact .app (.app .refl)
 have lA:A.length=h.length+2:=by rw [eA];simp
 have ga:A[h.length]?=some (paB (w:Int) v):=by rw [eA];exact get_app (get_eq rfl)
 have gc:A[h.length+1]?=some ⟨.cells [.int .i64 0,.slice none 0 0,.int .i64 0,.int .i64 0] 111 false false,0⟩:=by rw [eA];exact get_eq (by simp)
 have ck:=fun base=>run_checkP (base:=base) (hI.ext xA) ok
 have fw:=fun base=>run_fewestQ (base:=base) (hI.ext xA) ok
 rw [ef] at fw
 obtain ⟨B,eB⟩:∃ B,B=A++[plB k (c:Int) s]:=⟨_,rfl⟩
 have xB:Ext A B:=by rw [eB];exact .app .refl
 have lB':B.length=h.length+3:=by rw [eB];simp [lA]
 have gb:B[A.length]?=some (plB k (c:Int) s):=by rw [eB];exact get_eq rfl
 have ga2:=xB.get ga
 have gc2:=xB.get gc
 have iB2:=(hI.ext xA).ext xB
 have sl:sliceA prog 25 v none (some (.int .i64 (c:Int))) none=some (slcV v 0 c):=by
  have:=sl_hi (P:=prog) (n:=(c:Int)) Fc.el25 Fc.ar25 (by omega) hI (by omega)
  rwa [Int.toNat_natCast] at this
 have iS:=Ints.slc iB2 (Nat.zero_le 0) (show 0≤l.length by omega)
 have iS:=Ints.slc iB2 (Nat.zero_le c) (show c≤l.length by omega)
 rw [List.drop_zero] at iS
 have cl:=fun base=>run_clone (base:=base) iS hts
 rw [cloneV,cloneH,nil_of_nilB iS hne] at cl
 simp only [Bool.false_eq_true,if_false,newV_ne hne,newH_ne hne,hcl] at cl
 refine ⟨k,s,c,by rw [ef],?_⟩
 refine callL_run func85 rfl rfl ?_
 have hsp:=@Nat.succ_ne_zero;repeat' (first|simp (disch:=first|exact dqb|fail) only [go_sem,↓reduceIte,hsp,← eA,ga,ck,neB,ne_eq,eq_self,not_true,decide_false,fw,← eB,gb,ga2,gc2,sl,cl]|refine WP_drw ?_|refine cnd_intro (fun hsp=>?_) fun hsp=>?_)
 have hxt:Ext h (B.set (h.length+1) ⟨.cells [.int .i64 (w:Int),.slice (some ⟨B.length,0,0⟩) c c,.int .i64 k,.int .i64 s] 111 false false,0⟩++[rowB (l.take c) 0]):=((xA.trans xB).set (by omega)).app
 have hb:(B.set (h.length+1) ⟨.cells [.int .i64 (w:Int),.slice (some ⟨B.length,0,0⟩) c c,.int .i64 k,.int .i64 s] 111 false false,0⟩++[rowB (l.take c) 0])[h.length+3]?=some (rowB (l.take c) 0):=get_eq (by simp [lB'])
 have:=fin_nw (h:=h) (f:=fun x=>.tuple [.agg [.int .i64 (w:Int),x,.int .i64 k,.int .i64 s],.int .i64 0]) (l:=l.take c) (j:=3) (fun x=>by simp [AVal.refs,refsL]) (fun g x=>by simp [AVal.ren,renL]) hne hxt hb rfl rfl
 rw [newV_ne hne,newH_ne hne,hcl,← lB'] at this
 exact this
end Go.AM
namespace Go.AM
open Go.Shelf Go.Lib Go.Proofs
section
variable {w:World} {b:Nat} {T:TypeId} {fz:Nat × Nat}
end
end Go.AM
namespace Go.AM
open Go.Proofs.Try
attribute [-go_sem] put_ne put_same
attribute [local go_sem ↓] put_if
def insRen:Go.Shelf.Ren:=⟨fun x=>match x with
  | 21=>140
  | 27=>166
  | 28=>167
  | 35=>192
  | 39=>22
  | n=>n,
 fun x=>match x with
  | 22=>25
  | 3=>3
  | 4=>4
  | n=>n,
 fun n=>n⟩
theorem insT0:insRen.t 0=0:=rfl
theorem insT3:insRen.t 3=3:=rfl
theorem insT4:insRen.t 4=4:=rfl
theorem insT22:insRen.t 22=25:=rfl
end Go.AM
namespace Go.AM
def agrB (L:Lac) (r:Rw3) (k:Nat):Bool:=(List.range L.T.toNat).all fun t=>!r.2.1.toNat.testBit t || ((L.C.getD k 0).toNat.testBit t == r.2.2.toNat.testBit t)
def fitR (L:Lac) (p k:Nat):Bool:=L.R.all fun r=>!decide (r.1.toNat % L.C.length=p) || agrB L r k
def xplB (L:Lac) (o:List Int):Bool:=L.R.all fun r=>agrB L r (o.getD (r.1.toNat % o.length) 0).toNat
def allR (L:Lac):List (List Int):=(ordsF (fun _ _=>true) L.C.length L.C.length []).filter (xplB L)
end Go.AM
namespace Go.AM
open Go.Proofs.Try
attribute [-go_sem] put_ne put_same
attribute [local go_sem ↓] put_if
end Go.AM
namespace Go.AM
open Go.Proofs.Try
attribute [-go_sem] put_ne put_same
attribute [local go_sem ↓] put_if
abbrev rcB (T:Int) (cv rv:AVal):ABlk:=⟨.cells [.int .i64 T,cv,rv] 49 false false,0⟩
abbrev rrB (r:Rw3):ABlk:=⟨.cells [.int .i64 r.1,.int .i64 r.2.1,.int .i64 r.2.2] 79 false false,0⟩
section
variable {h:Heap} {rv:AVal} {R:List Rw3} {i:Nat} {r:Rw3}
end
theorem setB_off {T x:Int}:(!decide (0≤x∧x≤2 ^ T.toNat-1))=!setB T x:=rfl
end Go.AM
namespace Go.AM
open Go.Proofs.Try
attribute [-go_sem] put_ne put_same
attribute [local go_sem ↓] put_if
end Go.AM
namespace Go.AM
open Go.Proofs.Try
attribute [-go_sem] put_ne put_same
attribute [local go_sem ↓] put_if
section
variable {b:Nat} {H H':Heap} {v:AVal} {ts:List (List Int)}
def AllX (b e:Nat) (H:Heap) (v:AVal) (ts:List (List Int)):Prop:=∃ vs:List AVal,Own encZ 25 b H v vs∧vs.length=ts.length∧∀ (i:Nat) x t,vs[i]?=some x→ts[i]?=some t→OwnE encI 3 e H x t
end
def allF (n d:Nat) (l:List Int) (k:Int):List (List Int):=if ((fun (_ _:Nat)=>true) l.length k.toNat && decide (k ∉ l))=true then ordsF (fun _ _=>true) n d (l++[k]) else []
theorem ordsF_all {n d:Nat} {l:List Int}:ordsF (fun _ _=>true) n (d+1) l=(upto n).flatMap (allF n d l):=rfl
end Go.AM
namespace Go.AM
def insAt (l:List Int) (i:Nat) (k:Int):List Int:=l.take i++k :: l.drop i
def ordsI:Nat→List (List Int)
 | 0=>[[]]
 | n+1=>(ordsI n).flatMap fun l=>(List.range (l.length+1)).map fun i=>insAt l i (n:Int)
end Go.AM
namespace Go.AM
open Go.Proofs.Try
attribute [-go_sem] put_ne put_same
attribute [local go_sem ↓] put_if
def insN (l:List Int) (k:Int) (m:Nat):List (List Int):=(List.range m).map fun i=>insAt l i k
def nxtN (ls:List (List Int)) (k:Int) (m:Nat):List (List Int):=(ls.take m).flatMap fun l=>insN l k (l.length+1)
def cmpI (a b:Int):Int:=if a<b then -1 else if a > b then 1 else 0
def cmpL:List Int→List Int→Int
 | x :: a,y :: b=>if x=y then cmpL a b else cmpI x y
 | _,_=>0
end Go.AM
namespace Go.AM
open Go.Proofs.Try
attribute [-go_sem] put_ne put_same
attribute [local go_sem ↓] put_if
def lftN (L:Lac) (ps:List Int) (os:List (List Int)):Nat→Nat
 | 0=>0
 | j+1=>if xplD L (os.getD j []) (os.getD j []).length=true then max (lftN L ps os j) (fnd (shwL L (os.getD j []) ps)).length else lftN L ps os j
end Go.AM
namespace Go.AM
open Go.Proofs.Try
attribute [-go_sem] put_ne put_same
attribute [local go_sem ↓] put_if
theorem cvtN {x:Int} (hx:0≤x∧x≤255):convA prog 3 5 (.int .u8 x)=some (.int .i64 x):=by
 have h:convA prog 3 5 (.int .u8 x)=some (.int .i64 (IntKind.i64.wrap x)):=by kernel_rfl
 rw [h,wrap64 (by omega) (by omega)]
def crdL (C o:List Int) (n:Nat):List Int:=lst (fun t=>C.getD (o.getD t 0).toNat 0) n
theorem crdL_succ {C o:List Int} {n:Nat}:crdL C o (n+1)=crdL C o n++[C.getD (o.getD n 0).toNat 0]:=lst_succ
theorem upto_all {n:Nat} {x o:List Int} (hx:Ord n x) (ho:Ord n o) (h:∀ p ∈ upto n,x.getD p.toNat 0=o.getD p.toNat 0):x=o:=by
 refine lst_ext (by rw [hx.1,ho.1]) fun i hi=>?_
 rw [hx.1] at hi
 have:=h (i:Int) (upto_mem.2 (by omega))
 rwa [Int.toNat_natCast] at this
set_option maxRecDepth 100000 in
set_option maxHeartbeats 20000000 in
theorem run_LaceCarded {base:Nat} {h:Heap} {v0:AVal} {l0:List Int} {x1:Int} (hB0:Bytes h v0 l0) (q1:0≤x1∧x1≤255) :
  callL prog raw base (.fn 16 [] []) [v0,.int .u8 x1] h=some (.bool true,h):=by
 have o0:=hB0.one
 have hw0:=run_wound (base:=h.length) hB0
 obtain ⟨G,eG⟩:∃ G,G=h++[spB v0 l0 0]:=⟨_,rfl⟩
 have lG:G.length=h.length+1:=by rw [eG];simp
 have xG:Ext h G:=by rw [eG];exact .app .refl
 have hS:SpAt G h.length v0 l0 0:=by rw [eG];exact SpAt.new hB0 rfl
 obtain ⟨n,en⟩:∃ n:Nat,1+x1.tmod 48=(n:Int):=⟨(1+x1.tmod 48).toNat,by have:=Int.tmod_nonneg 48 q1.1;omega⟩
 have hn:1≤n∧n≤48:=by have a1:=Int.tmod_nonneg 48 q1.1;have a2:=Int.tmod_lt_of_pos x1 (b:=48) (by omega);omega
 obtain ⟨_,H1,e1,T,C,o,cv,ov,k,rfl,hk,S1,oC,oO,mk0,hoC⟩:=run_Made (base:=h.length) (N:=7) (by omega) hS (by omega) (by omega)
 rw [show (((7:Nat):Int))=7 from rfl] at e1
 have ocv:=oC.one
 have oov:=oO.one
 have l1:=S1.len
 have hTb:=mk0.tb
 have hcl:=mk0.n
 obtain ⟨w,ew⟩:=Int.eq_ofNat_of_zero_le (show 0≤T by omega)
 subst ew
 have hw:1≤w∧w≤8:=by omega
 obtain ⟨c0,ec0⟩:∃ c0,c0=C.length:=⟨_,rfl⟩
 rw [← ec0] at hcl hoC
 have hok0:LacOk ⟨(w:Int),C,[]⟩:=mk0.lac (R:=[]) (o:=o) (by omega) (by simp) (by simp)
 obtain ⟨L,eL⟩:∃ L:Lac,L=⟨(w:Int),C,[]⟩:=⟨_,rfl⟩
 rw [← eL] at hok0
 have hLn:L.C.length=c0:=by rw [eL,ec0]
 have hc0:=chkL_iff.2 hok0
 have hCs:Small C:=by have:=lac_small hc0;rw [eL] at this;exact this
 have hLC:L.C=C:=by rw [eL]
 have hLT:L.T=(w:Int):=by rw [eL]
 have hLR:L.R=[]:=by rw [eL]
 have hCc:Crds w C:=fun x hx=>by
  have:=hok0.c x (by rw [hLC];exact hx)
  rw [hLT,Int.toNat_natCast] at this
  have e:(2:Int) ^ w=((2 ^ w:Nat):Int):=by simp
  omega
 obtain ⟨B,eB⟩:∃ B,B=H1++[lacB (w:Int) cv (.slice none 0 0)]:=⟨_,rfl⟩
 have xB:Ext H1 B:=by rw [eB];exact .app .refl
 have lB0:B.length=H1.length+1:=by rw [eB];simp
 have gB:B[H1.length]?=some (lacB (w:Int) cv (.slice none 0 0)):=by rw [eB];exact get_eq rfl
 have hBx:Ext h B:=(S1.ext xB).on xG (Nat.le_refl _)
 have hBl:=hBx.len
 have oCB:OwnE encI 3 (h.length+1) B cv C:=(OwnE.ext (.inl oC) xB).low (by omega)
 have oOB:OwnE encI 3 (h.length+1) B ov o:=(oO.ext xB).low (by omega)
 have iC:=ownE_ints oCB hCs
 have iO:=ownE_ints oOB (ord_small hoC (by omega))
 have aL:LacAt B (.agg [.int .i64 (w:Int),cv,.slice none 0 0]) L:=by rw [eL];exact ⟨cv,.slice none 0 0,rfl,iC,Rows.nil⟩
 have hlcd:lcdE L o=0:=by unfold lcdE;rw [if_pos hc0,hLn];exact ordL_iff.2 hoC
 obtain ⟨_,H2,e2,x2,wv,rfl,oW⟩:=run_Weave (base:=h.length) (h:=B) (n:=(n:Int)) (by omega) aL iO
 have hwv:wvE L o (n:Int)=(wvL L o n,0):=by unfold wvE;rw [if_pos hlcd,if_pos (by omega),Int.toNat_natCast]
 rw [hwv] at e2 oW
 have oW:Own encI 3 B.length H2 wv (wvL L o n):=oW
 have owv:=oW.one
 have l2:=x2.len
 have hwl:(wvL L o n).length=n:=wvL_len
 have hwS:Small (wvL L o n):=⟨by omega,fun x hx=>by
  obtain ⟨t,ht,e⟩:=List.mem_iff_getElem.1 hx
  rw [hwl] at ht
  rw [← getD_at (d:=(0:Int)) (by rw [hwl];exact ht)] at e
  unfold wvL at e
  rw [lst_get ht] at e
  have hm:=Nat.mod_lt t (show o.length > 0 by rw [hoC.1];omega)
  have hk:=ord_at hoC (i:=t % o.length) (by rw [← hoC.1];exact hm)
  rw [← e,hLC]
  exact hCs.2 _ (getD_mem' (d:=(0:Int)) (by omega))⟩
 have iW:=own_ints oW hwS
 obtain ⟨H3,eH3⟩:∃ H3,H3=H2++[chB (w:Int) (.slice none 0 0) 0 0]:=⟨_,rfl⟩
 have x3:Ext H2 H3:=by rw [eH3];exact .app .refl
 have l3:H3.length=H2.length+1:=by rw [eH3];simp
 have g3:H3[H2.length]?=some (chB (w:Int) (.slice none 0 0) 0 0):=by rw [eH3];exact get_eq rfl
 have gB2:=x2.get gB
 have lO:=fun {K} (e:Ext B K)=>lenI (iO.ext e)
 rw [hoC.1] at lO
 have lO3:=lO (x2.trans x3)
 have eB':=eB
 have gB':=gB
 have gB2':=gB2
 unfold lacB at eB' gB' gB2'
 have cv1:=cvtN q1
 unfold chB at eH3
 refine callL_run func16 rfl rfl ?_
 have hsp:=@Nat.succ_ne_zero;repeat' (first|simp (disch:=first|exact dqc|fail) only [go_sem,↓reduceIte,hsp,hw0,← eG,e1,← eB',gB',cv1,en,e2,gB2',← eH3,lO3]|refine WP_drw ?_|refine cnd_intro (fun hsp=>?_) fun hsp=>?_)
 refine WP_count [(12,12),(43,57)] 0 c0 (Nat.zero_le _) (fun _ i fr K=>fr 43=.int .i64 (i:Int)∧Ext H2 K∧H2.length<K.length∧∃ u,K[H2.length]?=some (chB (w:Int) u 0 0)∧Own encI 3 (H2.length+1) K u (crdL C o i)) ?_ ?_ ?_
 ·exact ⟨by (simp (disch:=first|exact dqc|fail) only [go_sem,↓reduceIte,Int.natCast_zero];first|done|rfl),x3,by omega,_,g3,Own.nil⟩
 ·rintro i fr K hi0 hi hA ⟨r43,xK,lK,u,gK,oU⟩
  have q4:=hA 4 rfl
  have q5:=hA 5 rfl
  have q6:=hA 6 rfl
  have q7:=hA 7 rfl
  have q8:=hA 8 rfl
  have q9:=hA 9 rfl
  have q10:=hA 10 rfl
  have q41:=hA 41 rfl
  have q42:=hA 42 rfl
  try simp (disch:=first|exact dqc|fail) only [go_sem,↓reduceIte] at q4 q5 q6 q7 q8 q9 q10 q41 q42
  have hlt:((i:Int)<(c0:Int))=True:=eq_true (by omega)
  have ou:=oU.one
  have xBK:=x2.trans xK
  have ai:=adrI (i:=(i:Int)) (by omega) (iO.ext xBK) (by rw [hoC.1];omega)
  rw [Int.toNat_natCast] at ai
  have li:=loadI (iO.ext xBK) (i:=i) (by rw [hoC.1];exact hi)
  have hkk:=ord_at hoC hi
  obtain ⟨j,ej⟩:=Int.eq_ofNat_of_zero_le hkk.2.1
  rw [ej] at li hkk
  have aj:=adrI (i:=(j:Int)) (by omega) (iC.ext xBK) (by omega)
  rw [Int.toNat_natCast] at aj
  have lj:=loadI (iC.ext xBK) (i:=j) (by omega)
  obtain ⟨y,ey⟩:∃ y,y=C.getD j 0:=⟨_,rfl⟩
  rw [← ey] at lj
  obtain ⟨u',K',a1,a2,a3,a4,a5,a6⟩:=oU.append1X (P:=prog) (y:=y) (a:=.int .i64 y) (base:=h.length) (t:=25) rfl rfl Fc.el25 encI_sc (by omega) lK (by rw [crdL,lst_len];omega)
  have kp:KeepO encI 3 K K':=a6
  have g2:=kp.box gK
  have gcK:=xBK.get gB
  have hcs:crdL C o (i+1)=crdL C o i++[y]:=by rw [crdL_succ,ej,Int.toNat_natCast,ey]
  unfold chB at gK g2
  unfold lacB at gcK
  have hsp:=@Nat.succ_ne_zero;repeat' (first|simp (disch:=first|exact dqc|fail) only [go_sem,↓reduceIte,hsp,r43,q4,q5,q6,q7,q8,q9,q10,q41,q42,hlt,ai,li,gK,gcK,aj,lj,a1,g2]|refine WP_drw ?_|refine cnd_intro (fun hsp=>?_) fun hsp=>?_)
  refine ⟨agq,by omega,(a4 H2 (by omega) xK).set (Nat.le_refl _),by omega,u',rfl,?_⟩
  rw [hcs];exact a2.setBox g2
 ·rintro fr H4 hA ⟨r43,x4,l4,u,g4,oU⟩
  have q4:=hA 4 rfl
  have q5:=hA 5 rfl
  have q6:=hA 6 rfl
  have q7:=hA 7 rfl
  have q8:=hA 8 rfl
  have q9:=hA 9 rfl
  have q10:=hA 10 rfl
  have q41:=hA 41 rfl
  have q42:=hA 42 rfl
  try simp (disch:=first|exact dqc|fail) only [go_sem,↓reduceIte] at q4 q5 q6 q7 q8 q9 q10 q41 q42
  have hlt:((c0:Int)<(c0:Int))=False:=eq_false (by omega)
  have ou:=oU.one
  obtain ⟨W,eW⟩:∃ W,W=crdL C o c0:=⟨_,rfl⟩
  rw [← eW] at oU
  have hWl:W.length=c0:=by rw [eW];exact lst_len
  have hWat:∀ t,t<c0→W.getD t 0=C.getD (o.getD t 0).toNat 0:=fun t ht=>by rw [eW];exact lst_get ht
  have hWc:Crds w W:=fun x hx=>by
   obtain ⟨t,ht,e⟩:=List.mem_iff_getElem.1 hx
   rw [hWl] at ht
   rw [← getD_at (d:=(0:Int)) (by rw [hWl];exact ht),hWat t ht] at e
   have hk:=ord_at hoC ht
   rw [← e]
   exact hCc _ (getD_mem' (d:=(0:Int)) (by omega))
  have hWS:Small W:=by
   have hp:2 ^ w≤256:=by have:=Nat.pow_le_pow_right (show 0<2 by decide) hw.2;simpa using this
   exact ⟨by omega,fun x hx=>by have:=hWc x hx;omega⟩
  have iU:=own_ints oU hWS
  obtain ⟨_,H5,e5,x5,px,rfl,oP⟩:=run_weaveC (base:=h.length) (n:=n) (by omega) iU (by omega) hw hWc hn
  obtain ⟨P,eP⟩:∃ P,P=wvC W n:=⟨_,rfl⟩
  have okP:=wvC_ok (n:=n) hw (by omega) hWc hn
  rw [← eP] at oP okP
  have opx:=oP.one
  have l5:=x5.len
  have hPS:=pap_small okP
  have hPl:P.length=n:=by rw [eP];exact lst_len
  have iP:=own_ints oP hPS
  have hPW:P=wvL L o n:=by
   rw [eP]
   unfold wvC wvL
   refine lst_congr fun t ht=>?_
   have hm:=Nat.mod_lt t (show W.length > 0 by omega)
   rw [hWat _ (by omega),hLC,hWl,hoC.1]
  obtain ⟨H6,eH6⟩:∃ H6,H6=H5++[paB (w:Int) px]:=⟨_,rfl⟩
  have x6:Ext H5 H6:=by rw [eH6];exact .app .refl
  have g6:H6[H5.length]?=some (paB (w:Int) px):=by rw [eH6];exact get_eq rfl
  have l6:H6.length=H5.length+1:=by rw [eH6];simp
  have x46:=x5.trans x6
  have xB4:=x2.trans x4
  have xB6:=xB4.trans x46
  have gB6:=xB6.get gB
  have hEq:=fun base=>run_eqI (base:=base) (iP.ext x6) (iW.ext (x4.trans x46))
  rw [decide_eq_true hPW] at hEq
  obtain ⟨m,hm⟩:=onl_some okP (k:=0) (s:=0)
  have hml:m+1≤c0:=by
   have:=only_le (n:=n) hw (show 1≤W.length∧W.length≤48 by omega) hWc hn (m:=m) (by rw [← eP];exact hm)
   omega
  have hO:=fun base=>run_only0 (base:=base) (iP.ext x6) okP hm
  have hfo:=few_only okP hm
  obtain ⟨fk,fs,fc,efc,hF⟩:=run_FewestC (base:=h.length) (iP.ext x6) okP
  obtain ⟨H7,eH7⟩:∃ H7,H7=H6++[rowB (P.take fc) 0]:=⟨_,rfl⟩
  rw [← eH7] at hF
  have x7:Ext H6 H7:=by rw [eH7];exact .app .refl
  have l7:H7.length=H6.length+1:=by rw [eH7];simp
  obtain ⟨bv,ebv⟩:∃ bv,bv=AVal.slice (some ⟨H6.length,0,0⟩) fc fc:=⟨_,rfl⟩
  rw [← ebv] at hF
  have obv:One bv:=by rw [ebv];exact ⟨rfl,rfl,rfl⟩
  have lbv:∀ {K},lenOpA prog K 25 bv=some (.int .i64 (fc:Int)):=fun {K}=>by rw [ebv];simp [lenOpA,Fc.el25,lenA]
  obtain ⟨H8,eH8⟩:∃ H8,H8=H7++[chB (w:Int) bv fk fs]:=⟨_,rfl⟩
  have x8:Ext H7 H8:=by rw [eH8];exact .app .refl
  have l8:H8.length=H7.length+1:=by rw [eH8];simp
  have g8:H8[H7.length]?=some (chB (w:Int) bv fk fs):=by rw [eH8];exact get_eq rfl
  have x48:=(x46.trans x7).trans x8
  have xB8:=xB4.trans x48
  have gB8:=xB8.get gB
  have t1:((m:Int)+1 > (c0:Int))=False:=eq_false (by omega)
  have t2:((m:Int)+1<1)=False:=eq_false (by omega)
  have t3:((fc:Int) > (m:Int)+1)=False:=eq_false (by omega)
  have iW8:=iW.ext (x4.trans x48)
  have lW8:=lenI iW8
  rw [hwl] at lW8
  have lO8:=lO xB8
  have hhB8:=hBx.trans xB8
  obtain ⟨Bq,eBq⟩:∃ Bq:AVal→Heap,Bq=fun u=>H8.set H1.length (lacB (w:Int) cv u):=⟨_,rfl⟩
  have lBq:∀ u,(Bq u).length=H8.length:=fun u=>by rw [eBq];simp
  have qBq:∀ u,(Bq u)[H1.length]?=some (lacB (w:Int) cv u):=fun u=>by rw [eBq];show (H8.set _ _)[_]?=_;rw [List.getElem?_set_self (by omega)]
  have hBh:∀ u,Ext h (Bq u):=fun u=>by rw [eBq];exact hhB8.set (by omega)
  have mvB:∀ {α:Type} {E:Enc α} {e:TypeId} {b:Nat} {v:AVal} {l:List α} (u),OwnE E e b H8 v l→OwnE E e b (Bq u) v l:=fun u y=>by rw [eBq];exact y.setBox gB8
  have iCB:∀ u,Ints (Bq u) cv C:=fun u=>ownE_ints (mvB u (oCB.ext xB8)) hCs
  have iOB:∀ u,Ints (Bq u) ov o:=fun u=>ownE_ints (mvB u (oOB.ext xB8)) (ord_small hoC (by omega))
  have iWB:∀ u,Ints (Bq u) wv (wvL L o n):=fun u=>ownE_ints (mvB u (OwnE.ext (.inl oW) (x4.trans x48))) hwS
  have stB:∀ {X:Heap} {u u':AVal},Ext (Bq u) X→Ext (Bq u') (X.set H1.length (lacB (w:Int) cv u')):=fun {X u u'} e=>by
   have:=e.set2 (i:=H1.length) (k:=lacB (w:Int) cv u') (by rw [lBq];omega)
   rw [eBq] at this ⊢
   simpa [List.set_set] using this
  have xq0:Ext (Bq (.slice none 0 0)) H8:=by
   rw [eBq];show Ext (H8.set _ _) _;rw [set_id gB8];exact .refl
  have gB4:=xB4.get gB
  have sh:=shl_one (w:=(w:Int)) (by omega) (by omega)
  rw [Int.toNat_natCast] at sh
  have hpw:(2:Int) ^ w≤256∧(1:Int)≤2 ^ w:=by
   have e:(2:Int) ^ w=((2 ^ w:Nat):Int):=by simp
   have h1:2 ^ w≤256:=by have:=Nat.pow_le_pow_right (show 0<2 by decide) hw.2;simpa using this
   have h2:=Nat.one_le_two_pow (n:=w)
   omega
  obtain ⟨Z,eZ⟩:∃ Z:Int,Z=2 ^ w:=⟨_,rfl⟩
  rw [← eZ] at sh hpw
  unfold chB at g4 eH8 g8
  unfold lacB at gB4 gB6 gB8
  unfold paB at eH6 g6
  have hsp:=@Nat.succ_ne_zero;repeat' (first|simp (disch:=first|exact dqc|fail) only [go_sem,↓reduceIte,hsp,r43,q4,q5,q6,q7,q8,q9,q10,q41,q42,hlt,g4,e5,← eH6,g6,gB6,neB,ne_eq,eq_self,not_true,decide_false,hEq,Bool.not_true,hO,hF,← eH8,g8,t1,t2,lO8,lbv,t3,lW8]|refine WP_drw ?_|refine cnd_intro (fun hsp=>?_) fun hsp=>?_)
  refine WP_count [(17,18),(119,140)] 0 n (Nat.zero_le _) (fun _ t fr X=>fr 119=.int .i64 (t:Int)∧∃ u,Ext (Bq u) X∧OwnE encR 70 H8.length X u (looks L o (upto (min t c0)))) ?_ ?_ ?_
  ·exact ⟨by (simp (disch:=first|exact dqc|fail) only [go_sem,↓reduceIte,Int.natCast_zero];first|done|rfl),.slice none 0 0,xq0,by rw [Nat.zero_min];exact .inl Own.nil⟩
  ·rintro t fr2 X ht0 ht hA2 ⟨r119,u,xX,oR⟩
   have d4:=hA2 4 rfl
   have d5:=hA2 5 rfl
   have d6:=hA2 6 rfl
   have d7:=hA2 7 rfl
   have d117:=hA2 117 rfl
   have d118:=hA2 118 rfl
   try simp (disch:=first|exact dqc|fail) only [go_sem,↓reduceIte,q4,q5,q6,q7] at d4 d5 d6 d7 d117 d118
   have hlt2:((t:Int)<(n:Int))=True:=eq_true (by omega)
   have ou2:=oR.one
   have lX:=xX.len
   rw [lBq] at lX
   have iWX:=(iWB u).ext xX
   have at1:=adrI (i:=(t:Int)) (by omega) iWX (by rw [hwl];omega)
   rw [Int.toNat_natCast] at at1
   have lt1:=loadI iWX (i:=t) (by rw [hwl];omega)
   have lOX:=lenI ((iOB u).ext xX)
   rw [hoC.1] at lOX
   have gX:=xX.get (qBq u)
   by_cases c:t<c0
   ·have t5:((t:Int)<(c0:Int))=True:=eq_true (by omega)
    obtain ⟨z,ez⟩:∃ z,z=(wvL L o n).getD t 0:=⟨_,rfl⟩
    rw [← ez] at lt1
    have hz:z=L.C.getD (o.getD t 0).toNat 0:=by
     rw [ez];unfold wvL;rw [lst_get ht,hoC.1,Nat.mod_eq_of_lt c]
    have hll:(looks L o (upto (min t c0))).length≤7:=by unfold looks;rw [List.length_map,upto_len];omega
    obtain ⟨w',X',ea,oW2,lW2,eW2,oneW,kW⟩:=snocR (base:=h.length) (r:=((t:Int),Z-1,z)) oR (by omega) (by omega) (by omega)
    have bs:∀ {lit:Bool},bsA prog lit X 42 1 [(0,.agg [.int .i64 (t:Int),.int .i64 (Z-1),.int .i64 z])]=some (.slice (some ⟨X.length,0,0⟩) 1 1,X++[rowE encR 70 [((t:Int),Z-1,z)] 0]):=fun {lit}=>bsR1 (r:=((t:Int),Z-1,z))
    have gX2:=kW.box gX
    have hlk:looks L o (upto (min (t+1) c0))=looks L o (upto (min t c0))++[((t:Int),Z-1,z)]:=by
     rw [show min (t+1) c0=t+1 by omega,show min t c0=t by omega]
     unfold looks
     rw [upto_succ,List.map_append,hLT,eZ,hz]
     simp only [List.map_cons,List.map_nil,Int.toNat_natCast]
    have hst:Ext (Bq w') (X'.set H1.length (lacB (w:Int) cv w')):=stB (eW2 (Bq u) (by rw [lBq];exact Nat.le_refl _) xX)
    have hoR:OwnE encR 70 H8.length (X'.set H1.length (lacB (w:Int) cv w')) w' (looks L o (upto (min (t+1) c0))):=by
     rw [hlk];exact OwnE.setBox (.inl oW2) gX2
    unfold lacB at gX gX2
    have hsp:=@Nat.succ_ne_zero;repeat' (first|simp (disch:=first|exact dqc|fail) only [go_sem,↓reduceIte,hsp,r119,d4,d5,d6,d7,d117,d118,q4,q5,q6,q7,q8,q9,q10,q41,q42,hlt2,at1,lt1,lOX,t5,gX,sh,bs,ea,gX2]|refine WP_drw ?_|refine cnd_intro (fun hsp=>?_) fun hsp=>?_)
    exact ⟨agq,by omega,w',hst,hoR⟩
   ·have t5:((t:Int)<(c0:Int))=False:=eq_false (by omega)
    have hsp:=@Nat.succ_ne_zero;repeat' (first|simp (disch:=first|exact dqc|fail) only [go_sem,↓reduceIte,hsp,r119,d4,d5,d6,d7,d117,d118,q4,q5,q6,q7,q8,q9,q10,q41,q42,hlt2,at1,lt1,lOX,t5]|refine WP_drw ?_|refine cnd_intro (fun hsp=>?_) fun hsp=>?_)
    exact ⟨agq,by omega,u,xX,by rw [show min (t+1) c0=min t c0 by omega];exact oR⟩
  ·rintro fr2 X hA2 ⟨r119,u,xX,oR⟩
   have d4:=hA2 4 rfl
   have d5:=hA2 5 rfl
   have d6:=hA2 6 rfl
   have d7:=hA2 7 rfl
   have d117:=hA2 117 rfl
   have d118:=hA2 118 rfl
   try simp (disch:=first|exact dqc|fail) only [go_sem,↓reduceIte,q4,q5,q6,q7] at d4 d5 d6 d7 d117 d118
   have hlt2:((n:Int)<(n:Int))=False:=eq_false (by omega)
   have ou2:=oR.one
   have lX:=xX.len
   rw [lBq] at lX
   have hXh:=(hBh u).trans xX
   have lhX:=hXh.len
   obtain ⟨ps,eps⟩:∃ ps,ps=upto (min n c0):=⟨_,rfl⟩
   rw [← eps] at oR
   have hpl:ps.length≤7:=by rw [eps,upto_len];omega
   have hpin:∀ p ∈ ps,0≤p∧p<(L.C.length:Int):=fun p hp=>by rw [eps] at hp;have:=upto_mem.1 hp;omega
   have hoL:o ∈ fnd L:=by rw [eL];exact fnd_mem.2 ⟨by rw [← ec0];exact hoC,mk0.xpl (by rw [← ec0];exact hoC) (by simp)⟩
   have hoC':Ord L.C.length o:=by rw [hLn];exact hoC
   have hSok:=shown_ok hok0 (o:=o) (ps:=ps) hoC' hpin (by rw [hLR];simp;omega)
   have hcS:=chkL_iff.2 hSok
   have hoS:o ∈ fnd (shwL L o ps):=(fnd_shown hok0 hoC' hpin).2 ⟨hoL,fun _ _=>rfl⟩
   have aS:LacAt X (.agg [.int .i64 (w:Int),cv,u]) (shwL L o ps):=by
    refine ⟨cv,u,by rw [← hLT];rfl,?_,?_⟩
    ·show Ints X cv L.C
     rw [hLC];exact (iCB u).ext xX
    ·show Rows encR X u (L.R++looks L o ps)
     rw [hLR,List.nil_append]
     exact oR.rows (by unfold looks;rw [List.length_map];omega)
   have iOX:=(iOB u).ext xX
   have hX1:=fun base=>run_Explains (base:=base) aS iOX
   have hxp:xpsE (shwL L o ps) o=(true,0):=by
    unfold xpsE lcdE
    rw [if_pos hcS]
    have e0:ordL o (shwL L o ps).C.length=0:=ordL_iff.2 hoC'
    rw [if_pos e0,xplD_iff.2 (fnd_mem.1 hoS).2]
   rw [hxp] at hX1
   obtain ⟨s1,s2,s3,s4,s5,s6,s7⟩:=found_all hcS hoS
   obtain ⟨_,Y,eF,xY,fv,rfl,oF⟩:=run_First (base:=h.length) (h:=X) (by omega) aS
   rw [s3] at eF oF
   obtain ⟨fo,efo⟩:∃ fo,fo=(fnd (shwL L o ps)).headD []:=⟨_,rfl⟩
   rw [← efo] at eF oF s4
   have oF:OwnE encI 3 X.length Y fv fo:=oF
   have hfO:Ord c0 fo:=by have:=fnd_ord s4;rw [← hLn];exact this
   have ofv:=oF.one
   have iF:=ownE_ints oF (ord_small hfO (by omega))
   have iOY:=iOX.ext xY
   have hE2:=fun base=>run_equal (base:=base) iF iOY
   have lOY:=lenI iOY
   rw [hoC.1] at lOY
   have gX:=xX.get (qBq u)
   have haw:=fun base=>run_awake (base:=base) (h:=Y)
   unfold lacB at gX
   by_cases c:n<c0
   ·have t5:((n:Int)<(c0:Int))=True:=eq_true (by omega)
    have hsp:=@Nat.succ_ne_zero;repeat' (first|simp (disch:=first|exact dqc|fail) only [go_sem,↓reduceIte,hsp,r119,d4,d5,d6,d7,d117,d118,q4,q5,q6,q7,q8,q9,q10,q41,q42,hlt2,gX,hX1,eF,eq_self,decide_true,lOY,t5,haw]|refine WP_drw ?_|refine cnd_intro (fun hsp=>?_) fun hsp=>?_)
    exact fB rfl (hXh.trans xY)
   ·have t5:((n:Int)<(c0:Int))=False:=eq_false (by omega)
    have hfe:fo=o:=by
     refine upto_all hfO hoC fun p hp=>?_
     have h1:=((fnd_shown hok0 hoC' hpin).1 s4).2 p (by rw [eps,show min n c0=c0 by omega];exact hp)
     exact h1
    rw [decide_eq_true hfe] at hE2
    have hsp:=@Nat.succ_ne_zero;repeat' (first|simp (disch:=first|exact dqc|fail) only [go_sem,↓reduceIte,hsp,r119,d4,d5,d6,d7,d117,d118,q4,q5,q6,q7,q8,q9,q10,q41,q42,hlt2,gX,hX1,eF,eq_self,decide_true,lOY,t5,hE2,haw]|refine WP_drw ?_|refine cnd_intro (fun hsp=>?_) fun hsp=>?_)
    exact fB rfl (hXh.trans xY)
end Go.AM
