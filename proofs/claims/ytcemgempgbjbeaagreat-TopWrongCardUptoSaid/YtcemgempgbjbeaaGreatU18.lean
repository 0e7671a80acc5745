/-
  Contracts: as few piles as can be (Piles).
-/
import Derived.Test.YtcemgempgbjbeaaGreatU17
import Derived.Test.YtcemgempgbjbeaaGreatU14
import Derived.Test.YtcemgempgbjbeaaGreatU15
import Derived.Test.YtcemgempgbjbeaaGreatU12
set_option linter.unusedSimpArgs false
set_option linter.unusedVariables false
namespace Go.AM
namespace L3
open Go.Proofs.Tryz
attribute [-go_sem] put_ne put_same
attribute [local go_sem ↓] put_if
structure PilAt (b:Nat) (H:Heap) (u:AVal) (vs:List AVal) (ps:List (List Int)):Prop where
 own:Own encZ 35 b H u vs
 len:vs.length=ps.length
 el:∀ (i:Nat) x t,vs[i]?=some x→ps[i]?=some t→Own encI 3 b H x t
 apart:∀ (i j:Nat) x y,i ≠ j→vs[i]?=some x→vs[j]?=some y→Asun x y
theorem PilAt.all {b:Nat} {H:Heap} {u:AVal} {vs:List AVal} {ps:List (List Int)} (x:PilAt b H u vs ps):AllI b H u ps:=⟨vs,x.own,x.len,fun i y t h1 h2=>.inl ((x.el i y t h1 h2).low (Nat.zero_le _))⟩
theorem PilAt.ext {b:Nat} {H H':Heap} {u:AVal} {vs:List AVal} {ps:List (List Int)} (x:PilAt b H u vs ps) (e:Ext H H'):PilAt b H' u vs ps:=⟨x.own.ext e,x.len,fun i y t h1 h2=>(x.el i y t h1 h2).ext e,x.apart⟩
theorem PilAt.put {base b i:Nat} {H:Heap} {u w:AVal} {vs:List AVal} {ps:List (List Int)} {t:List Int} {p:Int} (x:PilAt b H u vs ps) (hb:base≤b) (hbh:b≤H.length) (hw:vs[i]?=some w) (ht:ps[i]?=some t) (hl:t.length≤1000) :
  ∃ w' H2 id ver,One w'∧appendA prog base H 35 w (.vals [.int .i64 p])=some (w',H2)∧u=.slice (some ⟨id,ver,0⟩) vs.length vs.length∧H2[id]?=some (rowE encZ 35 vs ver)∧b≤id∧H.length≤H2.length∧(∀ G,G.length≤b→Ext G H→Ext G H2) ∧
   PilAt b (H2.set id (rowE encZ 35 (vs.set i w') ver)) u (vs.set i w') (ps.set i (t++[p])):=by
 have hi:=(List.getElem?_eq_some_iff.1 hw).1
 have hO:=x.el i w t hw ht
 have ea:=app_sn1 (P:=prog) (base:=base) (y:=p) (a:=.int .i64 p) (t:=35) hO rfl rfl Fc.el35 encI_sc hb (by omega)
 obtain ⟨H2,eH2⟩:∃ H2,H2=snH encI 3 H w t [p]:=⟨_,rfl⟩
 obtain ⟨w',ew'⟩:∃ w',w'=snV H w 1:=⟨_,rfl⟩
 rw [← eH2,← ew'] at ea
 have l2:H.length≤H2.length:=by rw [eH2];exact snH_len
 have hu2:Own encZ 35 b H2 u vs:=by rw [eH2];exact x.own.sn_oth (asun_ne hO x.own (by decide))
 have hw2:Own encI 3 b H2 w' (t++[p]):=by rw [eH2,ew'];exact hO.sn (m:=[p]) hbh (by simp)
 have ow':One w':=by rw [ew'];exact snV_one
 obtain ⟨id,ver,eu,gu,hid⟩:=(Or.inl hu2:OwnE encZ 35 b H2 u vs) |> fun z=>ownE_pos z (by omega)
 have lid:=lt_of_get gu
 refine ⟨w',H2,id,ver,ow',ea,eu,gu,hid,l2,fun G hG e=>by rw [eH2];exact hO.sn_ext hG e,?_,by rw [List.length_set,List.length_set];exact x.len,fun j y s h1 h2=>?_,fun j j' y y' hne h1 h2=>?_⟩
 ·exact .inr ⟨id,ver,by rw [List.length_set];exact eu,List.getElem?_set_self lid,hid,by rw [List.length_set];omega⟩
 ·have key:Own encI 3 b H2 y s:=by
   rw [List.getElem?_set] at h1 h2
   by_cases e:i=j
   ·rw [if_pos e,if_pos (by omega)] at h1
    rw [if_pos e,if_pos (by have:=x.len;omega)] at h2
    cases h1;cases h2;exact hw2
   ·rw [if_neg e] at h1 h2
    rw [eH2]
    exact (x.el j y s h1 h2).sn_oth (x.apart i j w y e hw h1)
  exact key.setRow gu (by decide)
 ·rw [List.getElem?_set] at h1 h2
  by_cases e:i=j
  ·rw [if_pos e,if_pos (by omega)] at h1
   rw [if_neg (fun z=>hne (e.symm.trans z))] at h2
   cases h1
   have hj:=(List.getElem?_eq_some_iff.1 h2).1
   have oy:=x.el j' y' _ h2 (List.getElem?_eq_getElem (by have:=x.len;omega))
   rw [ew']
   exact oy.sn_asun (x.apart i j' w y' (fun z=>hne (e.symm.trans z)) hw h2)
  ·rw [if_neg e] at h1
   by_cases e2:i=j'
   ·rw [if_pos e2,if_pos (by omega)] at h2
    cases h2
    have oy:=x.el j y _ h1 (List.getElem?_eq_getElem (by have:=(List.getElem?_eq_some_iff.1 h1).1;have:=x.len;omega))
    rw [ew']
    exact (oy.sn_asun (x.apart i j w y e hw h1)).symm
   ·rw [if_neg e2] at h2
    exact x.apart j j' y y' hne h1 h2
end L3
end Go.AM
namespace Go.AM
namespace L3
open Go.Proofs.Tryz
attribute [-go_sem] put_ne put_same
attribute [local go_sem ↓] put_if
def pilE (o:List Int):List (List Int) × Int:=if aloL o=0 then (pilN o o.length,0) else ([],aloL o)
end L3
end Go.AM
namespace Go.AM
namespace L3
open Go.Proofs.Tryz
attribute [-go_sem] put_ne put_same
attribute [local go_sem ↓] put_if
end L3
end Go.AM
namespace Go.AM
namespace L3
open Go.Proofs.Tryz
attribute [-go_sem] put_ne put_same
attribute [local go_sem ↓] put_if
def badAt (o pile:List Int) (i:Nat):Bool :=
 !decide (0≤pile.getD i 0∧pile.getD i 0≤(o.length:Int)-1) || (decide (0<i) && (decide (pile.getD i 0≤pile.getD (i-1) 0) || decide (o.getD (pile.getD i 0).toNat 0 ≥ o.getD (pile.getD (i-1) 0).toNat 0)))
def pilB (o pile:List Int):Bool:=decide (pile ≠ []) && (List.range pile.length).all fun i=>!badAt o pile i
def shwE (o:List Int) (ps:List (List Int)):Int × Int :=
 if aloL o ≠ 0 then (0,aloL o) else if ps.all (pilB o)=false then (0,8) else if ps.flatten.length ≠ o.length ∨ twB ps.flatten=true then (0,8) else ((ps.length:Int),0)
end L3
end Go.AM
namespace Go.AM
namespace L3
end L3
end Go.AM
namespace Go.AM
namespace L3
open Go.Proofs.Tryz
attribute [-go_sem] put_ne put_same
attribute [local go_sem ↓] put_if
def looks (L:Lac) (real ps:List Int):List Rw3:=ps.map fun p=>(p,2 ^ L.T.toNat-1,L.C.getD (real.getD p.toNat 0).toNat 0)
def shwL (L:Lac) (real ps:List Int):Lac:=⟨L.T,L.C,L.R++looks L real ps⟩
end L3
end Go.AM
namespace Go.AM
open Go.Proofs.Tryz
end Go.AM
namespace Go.AM
namespace L3
open Go.Proofs.Tryz
attribute [-go_sem] put_ne put_same
attribute [local go_sem ↓] put_if
structure SeenOk (T:Int) (C o:List Int) (r:Rw3):Prop where
 t:0≤r.1∧r.1≤60
 m:0≤r.2.1∧r.2.1≤2 ^ T.toNat-1
 s:0≤r.2.2
 is:(C.getD (o.getD (r.1.toNat % C.length) 0).toNat 0).toNat &&& r.2.1.toNat=r.2.2.toNat
end L3
end Go.AM
namespace Go.AM
namespace L3
end L3
end Go.AM
namespace Go.AM
namespace L3
open Go.Proofs.Tryz
attribute [-go_sem] put_ne put_same
attribute [local go_sem ↓] put_if
def cntK (os:List (List Int)) (p n i:Nat):List Int:=lst (fun k=>(((os.take i).countP fun o=>decide (o.getD p 0=(k:Int)):Nat):Int)) n
def askE (L:Lac):Int × Int × Int:=if (fndE L).2=0 then ((askN L.C.length (fnd L) L.C.length).1,(askN L.C.length (fnd L) L.C.length).2,0) else (0,0,(fndE L).2)
end L3
end Go.AM
namespace Go.AM
namespace L3
open Go.Proofs.Tryz
attribute [-go_sem] put_ne put_same
attribute [local go_sem ↓] put_if
end L3
end Go.AM
namespace Go.AM
namespace L3
open Go.Proofs.Tryz
attribute [-go_sem] put_ne put_same
attribute [local go_sem ↓] put_if
def rws4:List Rw3:=[(0,1,1),(5,6,0),(2,4,4),(3,4,4)]
def lac4 (r:Nat):Lac:=⟨3,[1,2,3,4],rws4.take r⟩
theorem kw4:kwnE (lac4 2)=([2,0,-1,-1],0):=by kernel_rfl
end L3
end Go.AM
namespace Go.AM
namespace L3
open Go.Proofs.Tryz
attribute [-go_sem] put_ne put_same
attribute [local go_sem ↓] put_if
end L3
end Go.AM
namespace Go.AM
namespace L3
open Go.Proofs.Tryz
attribute [-go_sem] put_ne put_same
attribute [local go_sem ↓] put_if
structure Risn (h H:Heap) (v0 v1:AVal) (l0 l1:List Int) (n:Nat) (w:AVal) (o:List Int):Prop where
 bd:1≤n∧n≤7
 ext:Ext h H
 own:OwnE encI 3 (h.length+2) H w o
 ord:Ord n o
 len:h.length+2≤H.length
 q:SpAt H (h.length+1) v1 l1 0
end L3
end Go.AM
namespace Go.AM
namespace L3
open Go.Proofs.Tryz
attribute [-go_sem] put_ne put_same
attribute [local go_sem ↓] put_if
structure MadeOk (T:Int) (C:List Int) (N:Nat):Prop where
 tb:1≤T∧T≤8
 n:1≤C.length∧C.length≤N
 c:∀ x ∈ C,0≤x∧x≤2 ^ T.toNat-1
 d:C.Nodup
end L3
end Go.AM
namespace Go.AM
namespace L3
open Go.Proofs.Tryz
attribute [-go_sem] put_ne put_same
attribute [local go_sem ↓] put_if
end L3
end Go.AM
namespace Go.AM
namespace L3
open Go.Proofs.Tryz
attribute [-go_sem] put_ne put_same
attribute [local go_sem ↓] put_if
section
variable {G H:Heap} {id:Nat} {v:AVal} {silk:List Int} {b:Nat} {T:Int} {C:List Int} {R:List Rw3} {o:List Int} {cv rv ov:AVal} {k N most:Nat}
end
end L3
end Go.AM
namespace Go.AM
namespace L3
section
variable {n:Nat} {os:List (List Int)} (hn:os.Nodup) (ho:∀ o ∈ os,Ord n o)
include hn ho
end
def lookR (L:Lac) (p k:Nat):Rw3:=((p:Int),2 ^ L.T.toNat-1,L.C.getD k 0)
def lvsK (os:List (List Int)) (p k:Nat):Int:=grt (lst (fun k=>(os.countP fun o=>decide (o.getD p 0=(k:Int)):Nat)) k)
theorem lvsK_all {n:Nat} {os:List (List Int)} {p:Nat}:lvsK os p n=lvsN n os p:=rfl
end L3
end Go.AM
namespace Go.AM
namespace L3
open Go.Proofs.Tryz
attribute [-go_sem] put_ne put_same
attribute [local go_sem ↓] put_if
end L3
end Go.AM
namespace Go.AM
namespace L3
open Go.Proofs.Tryz
attribute [-go_sem] put_ne put_same
attribute [local go_sem ↓] put_if
end L3
end Go.AM
namespace Go.AM
namespace L3
open Go.Proofs.Tryz
attribute [-go_sem] put_ne put_same
attribute [local go_sem ↓] put_if
end L3
end Go.AM
namespace Go.AM
namespace L3
open Go.Proofs.Tryz
attribute [-go_sem] put_ne put_same
attribute [local go_sem ↓] put_if
end L3
end Go.AM
namespace Go.AM
namespace L3
open Go.Proofs.Tryz
attribute [-go_sem] put_ne put_same
attribute [local go_sem ↓] put_if
abbrev chV (W:Int) (v:AVal) (k s:Int):AVal:=.agg [.int .i64 W,v,.int .i64 k,.int .i64 s]
abbrev chB (W:Int) (v:AVal) (k s:Int):ABlk:=⟨.cells [.int .i64 W,v,.int .i64 k,.int .i64 s] 50 false false,0⟩
theorem pow_lt {w:Nat} (hw:w≤60):1≤2 ^ w∧2 ^ w≤1152921504606846976:=⟨Nat.one_le_two_pow,by have:=Nat.pow_le_pow_right (show 0<2 by decide) hw;simpa using this⟩
theorem shl_bit {t:TypeId} {w:Nat} (hw:w≤60):binA prog .shl t (.int .i64 1) (.int .i64 (w:Int))=some (.int .i64 ((2 ^ w:Nat):Int)):=by
 have:=pow_lt hw
 rw [bin_shl (by omega)]
 have e:min (w:Int).toNat IntKind.i64.bits=w:=by simp [IntKind.bits];omega
 rw [e,Int.one_mul,show ((2:Int) ^ w)=((2 ^ w:Nat):Int) by simp,wrap64 (by omega) (by omega)]
theorem and_mask {t:TypeId} {a w:Nat} (ha:a<1152921504606846976) (hw:w≤60):binA prog .and t (.int .i64 (a:Int)) (.int .i64 (((2 ^ w:Nat):Int)-1))=some (.int .i64 ((a % 2 ^ w:Nat):Int)):=by
 have hp:=pow_lt hw
 have e0:((2 ^ w:Nat):Int)-1=((2 ^ w-1:Nat):Int):=by omega
 rw [e0]
 have e:BitVec.ofInt 64 (a:Int) &&& BitVec.ofInt 64 ((2 ^ w-1:Nat):Int)=BitVec.ofNat 64 (a % 2 ^ w):=by
  apply BitVec.eq_of_toNat_eq
  rw [BitVec.toNat_and,BitVec.ofInt_natCast,BitVec.ofInt_natCast,BitVec.toNat_ofNat,BitVec.toNat_ofNat,BitVec.toNat_ofNat,Nat.mod_eq_of_lt (a:=a) (by omega),Nat.mod_eq_of_lt (a:=2 ^ w-1) (by omega),Nat.and_two_pow_sub_one_eq_mod]
  have:=Nat.mod_le a (2 ^ w)
  rw [Nat.mod_eq_of_lt (a:=a % 2 ^ w) (by omega)]
 have:=Nat.mod_le a (2 ^ w)
 show some (AVal.int .i64 (IntKind.i64.wrap ((BitVec.ofInt 64 (a:Int) &&& BitVec.ofInt 64 ((2 ^ w-1:Nat):Int)).toNat:Int)))=_
 rw [e,BitVec.toNat_ofNat,Nat.mod_eq_of_lt (by omega),wrap64 (by omega) (by omega)]
theorem or_zero {t:TypeId} {a:Nat} (ha:a<1152921504606846976):binA prog .or t (.int .i64 (a:Int)) (.int .i64 0)=some (.int .i64 (a:Int)):=by
 have e:BitVec.ofInt 64 (a:Int) ||| BitVec.ofInt 64 0=BitVec.ofNat 64 a:=by
  apply BitVec.eq_of_toNat_eq
  rw [BitVec.toNat_or,BitVec.ofInt_natCast]
  simp
 show some (AVal.int .i64 (IntKind.i64.wrap ((BitVec.ofInt 64 (a:Int) ||| BitVec.ofInt 64 0).toNat:Int)))=_
 rw [e,BitVec.toNat_ofNat,Nat.mod_eq_of_lt (by omega),wrap64 (by omega) (by omega)]
theorem xor_bits {t:TypeId} {a b:Nat} (ha:a<1152921504606846976) (hb:b<1152921504606846976):binA prog .xor t (.int .i64 (a:Int)) (.int .i64 (b:Int))=some (.int .i64 ((a ^^^ b:Nat):Int)):=by
 have hx:a ^^^ b<2 ^ 60:=Nat.xor_lt_two_pow (by omega) (by omega)
 have e:BitVec.ofInt 64 (a:Int) ^^^ BitVec.ofInt 64 (b:Int)=BitVec.ofNat 64 (a ^^^ b):=by
  apply BitVec.eq_of_toNat_eq
  rw [BitVec.toNat_xor,BitVec.ofInt_natCast,BitVec.ofInt_natCast,BitVec.toNat_ofNat,BitVec.toNat_ofNat,BitVec.toNat_ofNat,Nat.mod_eq_of_lt (a:=a) (by omega),Nat.mod_eq_of_lt (a:=b) (by omega),Nat.mod_eq_of_lt (by omega)]
 show some (AVal.int .i64 (IntKind.i64.wrap ((BitVec.ofInt 64 (a:Int) ^^^ BitVec.ofInt 64 (b:Int)).toNat:Int)))=_
 rw [e,BitVec.toNat_ofNat,Nat.mod_eq_of_lt (by omega),wrap64 (by omega) (by omega)]
theorem run_inC {base:Nat} {h:Heap} {n lo hi:Int}:callL prog raw base (.fn 58 [] []) [.int .i64 n,.int .i64 lo,.int .i64 hi] h=some (.bool (decide (lo≤n∧n≤hi)),h):=by
 refine callL_run func58 rfl rfl ?_
 by_cases h1:lo≤n
 ·have t1:(n ≥ lo)=True:=eq_true h1
  have hsp:=@Nat.succ_ne_zero;repeat' (first|simp (disch:=first|exact dqb|fail) only [go_sem,↓reduceIte,hsp,t1]|refine WP_drw ?_|refine cnd_intro (fun hsp=>?_) fun hsp=>?_)
  refine fB ?_
  simp [h1]
 ·have t1:(n ≥ lo)=False:=eq_false h1
  have hsp:=@Nat.succ_ne_zero;repeat' (first|simp (disch:=first|exact dqb|fail) only [go_sem,↓reduceIte,hsp,t1]|refine WP_drw ?_|refine cnd_intro (fun hsp=>?_) fun hsp=>?_)
  refine fB ?_
  simp [h1]
attribute [go_sem] run_inC
theorem run_known0 {base:Nat} {h:Heap}:callL prog raw base (.fn 141 [] []) [.int .i64 0] h=some (.bool true,h):=by
 refine callL_run func141 rfl rfl ?_
 have hsp:=@Nat.succ_ne_zero;repeat' (first|simp (disch:=first|exact dqb|fail) only [go_sem,↓reduceIte,hsp]|refine WP_drw ?_|refine cnd_intro (fun hsp=>?_) fun hsp=>?_)
 exact fB rfl
theorem run_planC {base:Nat} {h:Heap} {v:AVal} {l:List Int} {W k s:Int} (hI:Ints h v l):callL prog raw base (.fn 144 [] []) [chV W v k s] h=some (.agg [.int .i64 k,.int .i64 (l.length:Int),.int .i64 s],h):=by
 have o:=hI.one
 refine callL_run func144 rfl rfl ?_
 have hsp:=@Nat.succ_ne_zero;repeat' (first|simp (disch:=first|exact dqb|fail) only [go_sem,↓reduceIte,hsp]|refine WP_drw ?_|refine cnd_intro (fun hsp=>?_) fun hsp=>?_)
 exact fin_pl rfl rfl (.app (.app .refl))
theorem run_stepped0 {base:Nat} {h:Heap} {n W:Int}:callL prog raw base (.fn 145 [] []) [.agg [.int .i64 0,.int .i64 n,.int .i64 0],.int .i64 W] h=some (.bool true,h):=by
 refine callL_run func145 rfl rfl ?_
 have hsp:=@Nat.succ_ne_zero;repeat' (first|simp (disch:=first|exact dqb|fail) only [go_sem,↓reduceIte,hsp]|refine WP_drw ?_|refine cnd_intro (fun hsp=>?_) fun hsp=>?_)
 exact fB (by simp) (.app .refl)
theorem run_takerC {base:Nat} {h:Heap} {n W:Int}:callL prog raw base (.fn 146 [] []) [.agg [.int .i64 0,.int .i64 n,.int .i64 0],.int .i64 W] h=some (.agg [.fn 214 [] [.ptr (some ⟨h.length,0,0⟩)]],h++[⟨.cells [.int .i64 n] 3 false false,0⟩]):=by
 have of:∀ {f:FuncId} {c:List AVal},One (.fn f [] c):=fun {f c}=>⟨rfl,rfl,rfl⟩
 have n3:∀ {js:List Nat} {u:Nat},newId h.length (js.map fun j=>h.length+j) (h.length+1+1+1) u=(h.length+js.idxOf 3,0):=fun {js u}=>newId_map (j:=3)
 refine callL_run func146 rfl rfl ?_
 have hsp:=@Nat.succ_ne_zero;repeat' (first|simp (disch:=first|exact dqb|fail) only [go_sem,↓reduceIte,hsp,of]|refine WP_drw ?_|refine cnd_intro (fun hsp=>?_) fun hsp=>?_)
 rw [List.append_assoc,List.append_assoc,List.append_assoc]
 rw [compact_many (js:=[3]) (by simp [AVal.refs,refsL]) (by decide) (by decide) (by
  intro j hj
  simp only [List.mem_singleton] at hj
  subst hj
  exact ⟨_,_,_,_,rfl,rfl⟩)]
 simp only [AVal.ren,renL,n3]
 rfl
theorem run_taken {base i:Nat} {H:Heap} {n t:Nat} (hg:H[i]?=some ⟨.cells [.int .i64 (n:Int)] 3 false false,0⟩) (hn:0<n):callL prog raw base (.fn 214 [] [.ptr (some ⟨i,0,0⟩)]) [.int .i64 (t:Int)] H=some (.tuple [.int .i64 ((t % n:Nat):Int),.int .i64 0],H):=by
 have r:binA prog .rem 3 (.int .i64 (t:Int)) (.int .i64 (n:Int))=some (.int .i64 ((t % n:Nat):Int)):=by rw [bin_rem (by omega),tmodN]
 refine callL_run func214 rfl rfl ?_
 have hsp:=@Nat.succ_ne_zero;repeat' (first|simp (disch:=first|exact dqb|fail) only [go_sem,↓reduceIte,hsp,hg,r]|refine WP_drw ?_|refine cnd_intro (fun hsp=>?_) fun hsp=>?_)
 exact fII rfl rfl .refl
theorem run_moved0 {base:Nat} {h:Heap} {a w:Nat} (hw:w≤8) (ha:a<2 ^ w):callL prog raw base (.fn 147 [] []) [.int .i64 (a:Int),.int .i64 0,.int .i64 (w:Int)] h=some (.int .i64 (a:Int),h):=by
 have hp:2 ^ w≤256:=by have:=Nat.pow_le_pow_right (show 0<2 by decide) hw;simpa using this
 have e1:binA prog .shl 3 (.int .i64 (a:Int)) (.int .i64 0)=some (.int .i64 (a:Int)):=by
  rw [bin_shl (by omega)]
  simp only [Int.toNat_zero,Nat.zero_min,Int.pow_zero,Int.mul_one]
  rw [wrap64 (by omega) (by omega)]
 have e2:binA prog .shr 3 (.int .i64 (a:Int)) (.int .i64 (w:Int))=some (.int .i64 0):=by
  rw [bin_shr (by omega)]
  have e:min (w:Int).toNat IntKind.i64.bits=w:=by simp [IntKind.bits];omega
  rw [e,show ((2:Int) ^ w)=((2 ^ w:Nat):Int) by simp,Int.fdiv_eq_ediv_of_nonneg _ (by omega),Int.ediv_eq_zero_of_lt (by omega) (by omega)]
 have e3:=fun t=>or_zero (t:=t) (a:=a) (by omega)
 have e4:=fun t=>shl_bit (t:=t) (w:=w) (by omega)
 have e5:=fun t=>and_mask (t:=t) (a:=a) (w:=w) (by omega) (by omega)
 have e6:a % 2 ^ w=a:=Nat.mod_eq_of_lt ha
 rw [e6] at e5
 refine callL_run func147 rfl rfl ?_
 have hsp:=@Nat.succ_ne_zero;repeat' (first|simp (disch:=first|exact dqb|fail) only [go_sem,↓reduceIte,hsp,e1,e2,e3,e4,e5,Int.sub_zero]|refine WP_drw ?_|refine cnd_intro (fun hsp=>?_) fun hsp=>?_)
 exact fI rfl
def Crds (w:Nat) (l:List Int):Prop:=∀ x ∈ l,0≤x∧x<((2 ^ w:Nat):Int)
theorem run_liftC {base:Nat} {h:Heap} {v:AVal} {l:List Int} {w t:Nat} (hI:Ints h v l) (hl:0<l.length) (hw:w≤8) (hC:Crds w l):callL prog raw base (.fn 59 [] []) [chV (w:Int) v 0 0,.int .i64 (t:Int)] h=some (.int .i64 (l.getD (t % l.length) 0),h):=by
 have o:=hI.one
 have hm:=Nat.mod_lt t hl
 have hx:=hC _ (getD_mem (l:=l) (i:=t % l.length) hm)
 obtain ⟨x,ex⟩:∃ x:Nat,l.getD (t % l.length) 0=(x:Int):=⟨(l.getD (t % l.length) 0).toNat,by omega⟩
 have rp:=fun base H (e:Ext h H)=>run_planC (base:=base) (W:=(w:Int)) (k:=0) (s:=0) (hI.ext e)
 have rp1:∀ {base:Nat} {a:ABlk},callL prog raw base (.fn 144 [] []) [chV (w:Int) v 0 0] (h++[a])=some (.agg [.int .i64 0,.int .i64 (l.length:Int),.int .i64 0],h++[a]):=fun {base a}=>rp base _ (.app .refl)
 have rt2:∀ {base:Nat} {a:ABlk},callL prog raw base (.fn 214 [] [.ptr (some ⟨h.length+1,0,0⟩)]) [.int .i64 (t:Int)] (h++[a]++[⟨.cells [.int .i64 (l.length:Int)] 3 false false,0⟩])=some (.tuple [.int .i64 ((t % l.length:Nat):Int),.int .i64 0],h++[a]++[⟨.cells [.int .i64 (l.length:Int)] 3 false false,0⟩]):=fun {base a}=>run_taken (get_eq (by simp)) hl
 have mv:=fun base H=>run_moved0 (base:=base) (h:=H) (a:=x) (w:=w) hw (by omega)
 refine callL_run func59 rfl rfl ?_
 have hsp:=@Nat.succ_ne_zero;repeat' (first|simp (disch:=first|exact dqb|fail) only [go_sem,↓reduceIte,hsp,rp1,run_takerC,rt2,ex,mv]|refine WP_drw ?_|refine cnd_intro (fun hsp=>?_) fun hsp=>?_)
 exact fI rfl (.app (.app .refl))
end L3
end Go.AM
namespace Go.AM
namespace L3
open Go.Proofs.Tryz
attribute [-go_sem] put_ne put_same
attribute [local go_sem ↓] put_if
theorem not_C {base id:Nat} {h:Heap} {g:AVal} {x:Int} {b:Bool} (hid:h[id]?=some ⟨.cells [g] 132 false false,0⟩) (hg:∀ base T,callL prog raw base g [.int .i64 x] (h++T)=some (.bool b,h++T)) :
  callL prog raw base (.fn 211 [] [.ptr (some ⟨id,0,0⟩)]) [.int .i64 x] h=some (.bool (!b),h):=by
 have hgi:=lt_of_get hid
 have hg0:∀ base,callL prog raw base g [.int .i64 x] h=some (.bool b,h):=fun base=>by have:=hg base [];rwa [List.append_nil] at this
 refine callL_run func211 rfl rfl ?_
 have hsp:=@Nat.succ_ne_zero;repeat' (first|simp (disch:=first|exact dqb|fail) only [go_sem,↓reduceIte,hsp,hid,hg,hg0]|refine WP_drw ?_|refine cnd_intro (fun hsp=>?_) fun hsp=>?_)
 exact fB rfl
theorem every_C {base:Nat} {h:Heap} {v g:AVal} {l:List (Int)} (p:Int→Bool) (hR:Ints h v l) (hg:∀ base T x,x ∈ l→callL prog raw base g [.int .i64 x] (h++T)=some (.bool (p x),h++T)) (h1:One g) :
  callL prog raw base (.fn 142 [] []) [v,g] h=some (.bool (l.all p),h):=by
 have hc:=anyF_I (base:=h.length) (h:=h++[⟨.cells [g] 132 false false,0⟩]) (g:=.fn 211 [] [.ptr (some ⟨h.length,0,0⟩)]) (fun x=>!p x) hR.app (fun base x hx=>not_C (base:=base) (x:=x) (get_eq rfl) (fun base T=>by have:=hg base ([⟨.cells [g] 132 false false,0⟩]++T) x hx;rwa [← List.append_assoc] at this))
 refine callL_run func142 rfl rfl ?_
 have hsp:=@Nat.succ_ne_zero;repeat' (first|simp (disch:=first|exact dqb|fail) only [go_sem,↓reduceIte,hsp,hc]|refine WP_drw ?_|refine cnd_intro (fun hsp=>?_) fun hsp=>?_)
 refine fB ?_
 rw [List.any_eq_not_all_not]
 simp
theorem run_chk1C {base id:Nat} {h:Heap} {v:AVal} {w:Nat} {x:Int} (hg:h[id]?=some (chB (w:Int) v 0 0)) (hw:w≤8) (hx:0≤x∧x<((2 ^ w:Nat):Int)):callL prog raw base (.fn 143 [] [.ptr (some ⟨id,0,0⟩)]) [.int .i64 x] h=some (.bool true,h):=by
 have hp:=pow_lt (w:=w) (by omega)
 have e4:=fun t=>shl_bit (t:=t) (w:=w) (by omega)
 have t1:(0≤x∧x≤((2 ^ w:Nat):Int)-1)=True:=eq_true (by omega)
 refine callL_run func143 rfl rfl ?_
 have hsp:=@Nat.succ_ne_zero;repeat' (first|simp (disch:=first|exact dqb|fail) only [go_sem,↓reduceIte,hsp,hg,chB,e4,t1]|refine WP_drw ?_|refine cnd_intro (fun hsp=>?_) fun hsp=>?_)
 exact fB rfl .refl
theorem run_checkC {base:Nat} {h:Heap} {v:AVal} {l:List Int} {w:Nat} (hI:Ints h v l) (hl:1≤l.length∧l.length≤48) (hw:1≤w∧w≤8) (hC:Crds w l):callL prog raw base (.fn 57 [] []) [chV (w:Int) v 0 0] h=some (.int .i64 0,h):=by
 have o:=hI.one
 have t1:(1≤(w:Int)∧(w:Int)≤8)=True:=eq_true (by omega)
 have t2:(1≤(l.length:Int)∧(l.length:Int)≤48)=True:=eq_true (by omega)
 have ev:∀ {base:Nat} {T:Heap},T=h++[chB (w:Int) v 0 0]→callL prog raw base (.fn 142 [] []) [v,.fn 143 [] [.ptr (some ⟨h.length,0,0⟩)]] T=some (.bool true,T):=fun {base T} e=>by
  have hg:T[h.length]?=some (chB (w:Int) v 0 0):=by rw [e];exact get_eq rfl
  have:=every_C (base:=base) (h:=T) (v:=v) (g:=.fn 143 [] [.ptr (some ⟨h.length,0,0⟩)]) (l:=l) (fun _=>true) (by rw [e];exact hI.app) (fun base T x hx=>run_chk1C (get_app hg) hw.2 (hC x hx)) ⟨rfl,rfl,rfl⟩
  rwa [show (l.all fun _=>true)=true from List.all_eq_true.2 fun _ _=>rfl] at this
 have ev2:=fun base=>ev (base:=base) rfl
 have rp1:∀ {base:Nat} {a:ABlk},callL prog raw base (.fn 144 [] []) [chV (w:Int) v 0 0] (h++[a])=some (.agg [.int .i64 0,.int .i64 (l.length:Int),.int .i64 0],h++[a]):=fun {base a}=>run_planC (hI.ext (.app .refl))
 unfold chB at ev2
 refine callL_run func57 rfl rfl ?_
 have hsp:=@Nat.succ_ne_zero;repeat' (first|simp (disch:=first|exact dqb|fail) only [go_sem,↓reduceIte,hsp,t1,t2,run_known0,ev2,rp1,run_stepped0]|refine WP_drw ?_|refine cnd_intro (fun hsp=>?_) fun hsp=>?_)
 exact fI rfl (.app .refl)
def wvC (l:List Int) (n:Nat):List Int:=lst (fun t=>l.getD (t % l.length) 0) n
set_option maxHeartbeats 1000000 in
theorem run_weaveC {base:Nat} {h:Heap} {v:AVal} {l:List Int} {w n:Nat} (hb:base≤h.length) (hI:Ints h v l) (hl:1≤l.length∧l.length≤48) (hw:1≤w∧w≤8) (hC:Crds w l) (hn:1≤n∧n≤48) :
  Ret prog raw base (.fn 16 [] []) [chV (w:Int) v 0 0,.int .i64 (n:Int)] h (fun r H=>Ext h H∧∃ x,r=.tuple [.agg [.int .i64 (w:Int),x],.int .i64 0]∧Own encI 3 h.length H x (wvC l n)):=by
 have o:=hI.one
 have t1:(1≤(n:Int)∧(n:Int)≤48)=True:=eq_true (by omega)
 obtain ⟨h2,eh2⟩:∃ h2,h2=h++[chB (w:Int) v 0 0]++[⟨.cells [.int .i64 0,.slice none 0 0] 54 false false,0⟩]:=⟨_,rfl⟩
 have x2:Ext h h2:=by rw [eh2];exact .app (.app .refl)
 have hl2:h2.length=h.length+2:=by rw [eh2];simp
 have gc:h2[h.length]?=some (chB (w:Int) v 0 0):=by rw [eh2];exact get_app (get_eq rfl)
 have gp:h2[h.length+1]?=some ⟨.cells [.int .i64 0,.slice none 0 0] 54 false false,0⟩:=by rw [eh2];exact get_eq (by simp)
 have ck:=fun base=>run_checkC (base:=base) (hI.ext x2) hl hw hC
 unfold chB at eh2
 refine ret_raw func16 rfl (by kernel_rfl) ?_
 have hsp:=@Nat.succ_ne_zero;repeat' (first|simp (disch:=first|exact dqb|fail) only [go_sem,↓reduceIte,hsp,← eh2,gc,chB,ck,t1]|refine WP_drw ?_|refine cnd_intro (fun hsp=>?_) fun hsp=>?_)
 refine WP_count [(8,8),(23,34)] 0 n (Nat.zero_le _) (fun _ i fr h'=>fr 23=.int .i64 (i:Int)∧∃ x,Ext h2 h'∧h'[h2.length]?=some ⟨.cells [.int .i64 (w:Int),x] 54 false false,0⟩∧Own encI 3 (h2.length+1) h' x (wvC l i)∧h2.length<h'.length) ?_ ?_ ?_
 ·exact ⟨by (simp (disch:=first|exact dqb|fail) only [go_sem,↓reduceIte,Int.natCast_zero];first|done|rfl),_,.app .refl,get_eq rfl,Own.nil,by simp⟩
 ·rintro i fr H hi0 hi hA ⟨p23,x,xH,gH,oH,hH⟩
  have p2:=hA 2 rfl
  have p4:=hA 4 rfl
  have p5:=hA 5 rfl
  have p7:=hA 7 rfl
  have p22:=hA 22 rfl
  try simp (disch:=first|exact dqb|fail) only [go_sem,↓reduceIte] at p2 p4 p5 p7 p22
  have hlt:((i:Int)<(n:Int))=True:=eq_true (by omega)
  have xx:=x2.trans xH
  have gcH:=xH.get gc
  have lf:=fun base=>run_liftC (base:=base) (t:=i) (hI.ext xx) (by omega) hw.2 hC
  obtain ⟨y,ey⟩:∃ y,l.getD (i % l.length) 0=y:=⟨_,rfl⟩
  rw [ey] at lf
  have ox:=oH.one
  obtain ⟨x',H',a1,a2,a3,a4,a5,a6⟩:=oH.append1X (P:=prog) (y:=y) (base:=base) (t:=35) rfl rfl Fc.el35 encI_sc (by omega) hH (by rw [wvC,lst_len];omega)
  have kp:KeepO encI 3 H H':=a6
  have g2:=kp.box gH
  have hsp:=@Nat.succ_ne_zero;repeat' (first|simp (disch:=first|exact dqb|fail) only [go_sem,↓reduceIte,hsp,p2,p4,p5,p7,p22,p23,hlt,gH,gcH,chB,lf,a1,g2]|refine WP_drw ?_|refine cnd_intro (fun hsp=>?_) fun hsp=>?_)
  refine ⟨agq,by omega,x',(a4 _ (by omega) xH).set (Nat.le_refl _),rfl,?_,by omega⟩
  have e:wvC l (i+1)=wvC l i++[y]:=by unfold wvC;rw [lst_succ,ey]
  rw [e]
  exact a2.setBox g2
 ·rintro fr H hA ⟨p23,x,xH,gH,oH,hH⟩
  have p2:=hA 2 rfl
  have p4:=hA 4 rfl
  have p5:=hA 5 rfl
  have p7:=hA 7 rfl
  have p22:=hA 22 rfl
  try simp (disch:=first|exact dqb|fail) only [go_sem,↓reduceIte] at p2 p4 p5 p7 p22
  have hlt:((n:Int)<(n:Int))=False:=eq_false (by omega)
  have gpH:=xH.get gp
  have ox:=oH.one
  have hsp:=@Nat.succ_ne_zero;repeat' (first|simp (disch:=first|exact dqb|fail) only [go_sem,↓reduceIte,hsp,p2,p4,p5,p7,p22,p23,hlt,gH,gpH]|refine WP_drw ?_|refine cnd_intro (fun hsp=>?_) fun hsp=>?_)
  exact ⟨((x2.trans xH)).set (by omega),x,rfl,(oH.setBox gpH).low (by omega)⟩
end L3
end Go.AM
namespace Go.AM
namespace L3
open Go.Proofs.Tryz
attribute [-go_sem] put_ne put_same
attribute [local go_sem ↓] put_if
abbrev papV (W:Int) (v:AVal):AVal:=.agg [.int .i64 W,v]
abbrev plnV (k n s:Int):AVal:=.agg [.int .i64 k,.int .i64 n,.int .i64 s]
abbrev inB (n:Int):ABlk:=⟨.cells [.int .i64 n] 3 false false,0⟩
abbrev plB (k n s:Int):ABlk:=⟨.cells [.int .i64 k,.int .i64 n,.int .i64 s] 266 false false,0⟩
def cdN (k n t:Nat):Nat:=if k=2 then t % n else if k=1∧1<n then min (t % (2 * n-2)) (2 * n-2-t % (2 * n-2)) else t % n
def mvN (k n s w t:Nat):Nat:=if k=2 then t / n * s % w else 0
def rtN (x b w:Nat):Nat:=x * 2 ^ b % 2 ^ w+x / 2 ^ (w-b)
theorem cdN_lt {k n t:Nat} (hn:1≤n):cdN k n t<n:=by
 unfold cdN
 split
 ·exact Nat.mod_lt _ hn
 ·split
  ·rename_i h2
   have:=Nat.mod_lt t (show 2 * n-2 > 0 by omega)
   omega
  ·exact Nat.mod_lt _ hn
theorem mvN_lt {k n s w t:Nat} (hw:1≤w):mvN k n s w t<w:=by
 unfold mvN
 split
 ·exact Nat.mod_lt _ hw
 ·omega
theorem or_bits {t:TypeId} {a b:Nat} (ha:a<1152921504606846976) (hb:b<1152921504606846976):binA prog .or t (.int .i64 (a:Int)) (.int .i64 (b:Int))=some (.int .i64 ((a ||| b:Nat):Int)):=by
 have hx:a ||| b<2 ^ 60:=Nat.or_lt_two_pow ha hb
 have e:BitVec.ofInt 64 (a:Int) ||| BitVec.ofInt 64 (b:Int)=BitVec.ofNat 64 (a ||| b):=by
  apply BitVec.eq_of_toNat_eq
  rw [BitVec.toNat_or,BitVec.ofInt_natCast,BitVec.ofInt_natCast,BitVec.toNat_ofNat,BitVec.toNat_ofNat,BitVec.toNat_ofNat,Nat.mod_eq_of_lt (a:=a) (by omega),Nat.mod_eq_of_lt (a:=b) (by omega),Nat.mod_eq_of_lt (by omega)]
 show some (AVal.int .i64 (IntKind.i64.wrap ((BitVec.ofInt 64 (a:Int) ||| BitVec.ofInt 64 (b:Int)).toNat:Int)))=_
 rw [e,BitVec.toNat_ofNat,Nat.mod_eq_of_lt (by omega),wrap64 (by omega) (by omega)]
theorem shl_bits {t:TypeId} {a b:Nat} (ha:a≤1000) (hb:b≤30):binA prog .shl t (.int .i64 (a:Int)) (.int .i64 (b:Int))=some (.int .i64 ((a * 2 ^ b:Nat):Int)):=by
 have hp:2 ^ b≤2 ^ 30:=Nat.pow_le_pow_right (by decide) hb
 have hm:a * 2 ^ b≤1000 * 2 ^ 30:=Nat.mul_le_mul ha hp
 rw [bin_shl (by omega)]
 have e:min (b:Int).toNat IntKind.i64.bits=b:=by simp [IntKind.bits];omega
 have e2:(a:Int) * 2 ^ b=((a * 2 ^ b:Nat):Int):=by simp
 rw [e,e2,wrap64 (by omega) (by omega)]
theorem shr_bits {t:TypeId} {a b:Nat} (hb:b≤60):binA prog .shr t (.int .i64 (a:Int)) (.int .i64 (b:Int))=some (.int .i64 ((a / 2 ^ b:Nat):Int)):=by
 rw [bin_shr (by omega)]
 have e:min (b:Int).toNat IntKind.i64.bits=b:=by simp [IntKind.bits];omega
 have e2:(2:Int) ^ b=((2 ^ b:Nat):Int):=by simp
 rw [e,e2,Int.fdiv_eq_ediv_of_nonneg _ (Int.natCast_nonneg _)]
 rfl
def rtOk:Bool:=(List.range 8).all fun w=>(List.range (2 ^ (w+1))).all fun a=>(List.range (w+1)).all fun b=>((a * 2 ^ b ||| a / 2 ^ (w+1-b)) % 2 ^ (w+1)) == (rtN a b (w+1))
theorem rtOk_true:rtOk=true:=by kernel_rfl
theorem rt_is {x b w:Nat} (hw:1≤w) (hw8:w≤8) (hx:x<2 ^ w) (hb:b<w):(x * 2 ^ b ||| x / 2 ^ (w-b)) % 2 ^ w=rtN x b w:=by
 have h1:=rtOk_true
 unfold rtOk at h1
 have h2:=List.all_eq_true.1 h1 (w-1) (by simp;omega)
 have ew:w-1+1=w:=by omega
 rw [ew] at h2
 have h3:=List.all_eq_true.1 h2 x (by simpa using hx)
 have h4:=List.all_eq_true.1 h3 b (by simpa using hb)
 exact eq_of_beq h4
theorem run_movedQ {base:Nat} {h:Heap} {x b w:Nat} (hw:1≤w∧w≤8) (hx:x<2 ^ w) (hb:b<w) :
  callL prog raw base (.fn 147 [] []) [.int .i64 (x:Int),.int .i64 (b:Int),.int .i64 (w:Int)] h=some (.int .i64 ((rtN x b w:Nat):Int),h):=by
 have hp:2 ^ w≤256:=by have:=Nat.pow_le_pow_right (show 0<2 by decide) hw.2;simpa using this
 have hpb:2 ^ b≤256:=by have:=Nat.pow_le_pow_right (show 0<2 by decide) (show b≤8 by omega);simpa using this
 have hm:x * 2 ^ b≤256 * 256:=Nat.mul_le_mul (by omega) hpb
 have hd:x / 2 ^ (w-b)≤x:=Nat.div_le_self _ _
 have ho:(x * 2 ^ b ||| x / 2 ^ (w-b))<2 ^ 20:=Nat.or_lt_two_pow (by omega) (by omega)
 have e1:=fun t=>shl_bits (t:=t) (a:=x) (b:=b) (by omega) (by omega)
 have e2:=fun t=>shr_bits (t:=t) (a:=x) (b:=w-b) (by omega)
 have e3:=fun t=>or_bits (t:=t) (a:=x * 2 ^ b) (b:=x / 2 ^ (w-b)) (by omega) (by omega)
 have e4:=fun t=>shl_bit (t:=t) (w:=w) (by omega)
 have e5:=fun t=>and_mask (t:=t) (a:=x * 2 ^ b ||| x / 2 ^ (w-b)) (w:=w) (by omega) (by omega)
 have e6:(w:Int)-(b:Int)=((w-b:Nat):Int):=by omega
 have hr:=rt_is hw.1 hw.2 hx hb
 rw [hr] at e5
 refine callL_run func147 rfl rfl ?_
 have hsp:=@Nat.succ_ne_zero;repeat' (first|simp (disch:=first|exact dqb|fail) only [go_sem,↓reduceIte,hsp,e1,e6,e2,e3,e4,e5]|refine WP_drw ?_|refine cnd_intro (fun hsp=>?_) fun hsp=>?_)
 exact fI rfl
theorem tdivQ (a b:Nat):(a:Int).tdiv b=((a / b:Nat):Int):=rfl
theorem run_tak1 {base i j m k n s w t:Nat} {h:Heap} (hi:h[i]?=some (inB (n:Int))) (hj:h[j]?=some (plB (k:Int) (n:Int) (s:Int))) (hm:h[m]?=some (inB (w:Int))) (hn:0<n) (hw:0<w) (ht:t≤10000000) (hs:s≤1000) :
  callL prog raw base (.fn 212 [] [.ptr (some ⟨i,0,0⟩),.ptr (some ⟨j,0,0⟩),.ptr (some ⟨m,0,0⟩)]) [.int .i64 (t:Int)] h=some (.tuple [.int .i64 ((t % n:Nat):Int),.int .i64 ((t / n * s % w:Nat):Int)],h):=by
 have r2:binA prog .quo 3 (.int .i64 (t:Int)) (.int .i64 (n:Int))=some (.int .i64 (IntKind.i64.wrap ((t / n:Nat):Int))):=by rw [bin_quo (by omega),tdivQ]
 have hq:t / n≤t:=Nat.div_le_self _ _
 obtain ⟨q,eq⟩:∃ q,q=t / n:=⟨_,rfl⟩
 rw [← eq] at r2 hq ⊢
 rw [wrap64 (by omega) (by omega)] at r2
 have hmu:q * s≤10000000 * 1000:=Nat.mul_le_mul (by omega) hs
 obtain ⟨p,ep⟩:∃ p,p=q * s:=⟨_,rfl⟩
 have r1:binA prog .rem 3 (.int .i64 (t:Int)) (.int .i64 (n:Int))=some (.int .i64 ((t % n:Nat):Int)):=by rw [bin_rem (by omega),tmodN]
 have r3:binA prog .mul 3 (.int .i64 (q:Int)) (.int .i64 (s:Int))=some (.int .i64 (p:Int)):=by rw [bin_mul,← Int.natCast_mul,← ep,wrap64 (by omega) (by omega)]
 have r4:binA prog .rem 3 (.int .i64 (p:Int)) (.int .i64 (w:Int))=some (.int .i64 ((p % w:Nat):Int)):=by rw [bin_rem (by omega),tmodN]
 rw [← ep]
 refine callL_run func212 rfl rfl ?_
 have hsp:=@Nat.succ_ne_zero;repeat' (first|simp (disch:=first|exact dqb|fail) only [go_sem,↓reduceIte,hsp,hi,hj,hm,r1,r2,r3,r4]|refine WP_drw ?_|refine cnd_intro (fun hsp=>?_) fun hsp=>?_)
 exact fII rfl rfl .refl
theorem run_tak2 {base i n t:Nat} {h:Heap} (hi:h[i]?=some (inB (n:Int))) (hn:2≤n) (hn2:n≤1000) :
  callL prog raw base (.fn 213 [] [.ptr (some ⟨i,0,0⟩)]) [.int .i64 (t:Int)] h=some (.tuple [.int .i64 ((min (t % (2 * n-2)) (2 * n-2-t % (2 * n-2)):Nat):Int),.int .i64 0],h):=by
 obtain ⟨c,ec⟩:∃ c,c=2 * n-2:=⟨_,rfl⟩
 rw [← ec]
 have hu:=Nat.mod_lt t (show c > 0 by omega)
 have e1:2 * (n:Int)-2=(c:Int):=by omega
 have r1:binA prog .rem 3 (.int .i64 (t:Int)) (.int .i64 (c:Int))=some (.int .i64 ((t % c:Nat):Int)):=by rw [bin_rem (by omega),tmodN]
 obtain ⟨u,eu⟩:∃ u,u=t % c:=⟨_,rfl⟩
 rw [← eu] at r1 hu ⊢
 have e2:(c:Int)-(u:Int)=((c-u:Nat):Int):=by omega
 have e3:min (u:Int) ((c-u:Nat):Int)=((min u (c-u):Nat):Int):=by omega
 refine callL_run func213 rfl rfl ?_
 have hsp:=@Nat.succ_ne_zero;repeat' (first|simp (disch:=first|exact dqb|fail) only [go_sem,↓reduceIte,hsp,hi,e1,r1,e2,e3]|refine WP_drw ?_|refine cnd_intro (fun hsp=>?_) fun hsp=>?_)
 exact fII rfl rfl .refl
def takF (k n:Int) (i:Nat):AVal:=if k=2 then .fn 212 [] [.ptr (some ⟨i,0,0⟩),.ptr (some ⟨i+1,0,0⟩),.ptr (some ⟨i+2,0,0⟩)] else if k=1∧n > 1 then .fn 213 [] [.ptr (some ⟨i,0,0⟩)] else .fn 214 [] [.ptr (some ⟨i,0,0⟩)]
def takH (k n s w:Int):Heap:=if k=2 then [inB n,plB k n s,inB w] else [inB n]
theorem takF_one {k n:Int} {i:Nat}:One (takF k n i):=by
 unfold takF
 split
 ·exact ⟨rfl,rfl,rfl⟩
 ·split<;>exact ⟨rfl,rfl,rfl⟩
theorem run_takerQ {base:Nat} {h:Heap} {k n s W:Int}:callL prog raw base (.fn 146 [] []) [plnV k n s,.int .i64 W] h=some (.agg [takF k n h.length],h++takH k n s W):=by
 have of:∀ {f:FuncId} {c:List AVal},One (.fn f [] c):=fun {f c}=>⟨rfl,rfl,rfl⟩
 have n0:∀ {js:List Nat} {u:Nat},newId h.length (js.map fun j=>h.length+j) h.length u=(h.length+js.idxOf 0,0):=fun {js u}=>newId_map (j:=0)
 have n1:∀ {js:List Nat} {u:Nat},newId h.length (js.map fun j=>h.length+j) (h.length+1) u=(h.length+js.idxOf 1,0):=fun {js u}=>newId_map (j:=1)
 have n3:∀ {js:List Nat} {u:Nat},newId h.length (js.map fun j=>h.length+j) (h.length+1+1+1) u=(h.length+js.idxOf 3,0):=fun {js u}=>newId_map (j:=3)
 have one:∀ {f:FuncId} {b0 b1 b2:ABlk},compact h.length (.agg [.fn f [] [.ptr (some ⟨h.length+1+1+1,0,0⟩)]]) (h++[b0]++[b1]++[b2]++[inB n])=some (.agg [.fn f [] [.ptr (some ⟨h.length,0,0⟩)]],h++[inB n]):=by
  intro f b0 b1 b2
  rw [List.append_assoc,List.append_assoc,List.append_assoc]
  rw [compact_many (js:=[3]) (by simp [AVal.refs,refsL]) (by decide) (by decide) (by
   intro j hj
   simp only [List.mem_singleton] at hj
   subst hj
   exact ⟨_,_,_,_,rfl,rfl⟩)]
  simp only [AVal.ren,renL,n3]
  rfl
 refine callL_run func146 rfl rfl ?_
 by_cases h1:k=2
 ·have t1:(k=2)=True:=eq_true h1
  have hsp:=@Nat.succ_ne_zero;repeat' (first|simp (disch:=first|exact dqb|fail) only [go_sem,↓reduceIte,hsp,of,t1]|refine WP_drw ?_|refine cnd_intro (fun hsp=>?_) fun hsp=>?_)
  rw [takF,takH,if_pos h1,if_pos h1,List.append_assoc,List.append_assoc,List.append_assoc]
  rw [compact_many (js:=[3,0,1]) (by simp [AVal.refs,refsL]) (by decide) (by decide) (by
   intro j hj
   simp only [List.mem_cons,List.not_mem_nil,or_false] at hj
   rcases hj with rfl|rfl|rfl
   ·exact ⟨_,_,_,_,rfl,rfl⟩
   ·exact ⟨_,_,_,_,rfl,rfl⟩
   ·exact ⟨_,_,_,_,rfl,rfl⟩)]
  simp only [AVal.ren,renL,n0,n1,n3]
  rfl
 ·have t1:(k=2)=False:=eq_false h1
  by_cases h2:k=1
  ·have t2:(k=1)=True:=eq_true h2
   by_cases h3:n > 1
   ·have t3:(n > 1)=True:=eq_true h3
    have hsp:=@Nat.succ_ne_zero;repeat' (first|simp (disch:=first|exact dqb|fail) only [go_sem,↓reduceIte,hsp,of,t1,t2,t3]|refine WP_drw ?_|refine cnd_intro (fun hsp=>?_) fun hsp=>?_)
    rw [takF,takH,if_neg h1,if_pos ⟨h2,h3⟩,if_neg h1]
    exact one
   ·have t3:(n > 1)=False:=eq_false h3
    have hsp:=@Nat.succ_ne_zero;repeat' (first|simp (disch:=first|exact dqb|fail) only [go_sem,↓reduceIte,hsp,of,t1,t2,t3]|refine WP_drw ?_|refine cnd_intro (fun hsp=>?_) fun hsp=>?_)
    rw [takF,takH,if_neg h1,if_neg (fun e=>h3 e.2),if_neg h1]
    exact one
  ·have t2:(k=1)=False:=eq_false h2
   have hsp:=@Nat.succ_ne_zero;repeat' (first|simp (disch:=first|exact dqb|fail) only [go_sem,↓reduceIte,hsp,of,t1,t2]|refine WP_drw ?_|refine cnd_intro (fun hsp=>?_) fun hsp=>?_)
   rw [takF,takH,if_neg h1,if_neg (fun e=>h2 e.1),if_neg h1]
   exact one
def TakAt (H:Heap) (i:Nat) (k n s w:Nat):Prop:=H[i]?=some (inB (n:Int))∧(k=2→H[i+1]?=some (plB (k:Int) (n:Int) (s:Int))∧H[i+2]?=some (inB (w:Int)))
theorem TakAt.ext {H H':Heap} {i k n s w:Nat} (x:TakAt H i k n s w) (e:Ext H H'):TakAt H' i k n s w:=⟨e.get x.1,fun hk=>⟨e.get (x.2 hk).1,e.get (x.2 hk).2⟩⟩
theorem TakAt.new {H:Heap} {k n s w:Nat}:TakAt (H++takH (k:Int) (n:Int) (s:Int) (w:Int)) H.length k n s w:=by
 unfold TakAt takH
 by_cases hk:k=2
 ·rw [if_pos (by omega)]
  refine ⟨by simp,fun _=>⟨by simp,by simp⟩⟩
 ·rw [if_neg (by omega)]
  exact ⟨by simp,fun h=>absurd h hk⟩
theorem run_tak {base i k n s w t:Nat} {H:Heap} (hT:TakAt H i k n s w) (hn:1≤n∧n≤1000) (hs:s≤1000) (hw:1≤w) (ht:t≤10000000) :
  callL prog raw base (takF (k:Int) (n:Int) i) [.int .i64 (t:Int)] H=some (.tuple [.int .i64 ((cdN k n t:Nat):Int),.int .i64 ((mvN k n s w t:Nat):Int)],H):=by
 unfold takF cdN mvN
 by_cases h2:k=2
 ·rw [if_pos (by omega),if_pos h2,if_pos h2]
  exact run_tak1 hT.1 (hT.2 h2).1 (hT.2 h2).2 (by omega) (by omega) ht hs
 ·rw [if_neg (by omega),if_neg h2,if_neg h2]
  by_cases h1:k=1∧1<n
  ·rw [if_pos (by omega),if_pos h1]
   exact run_tak2 hT.1 (by omega) (by omega)
  ·rw [if_neg (by omega),if_neg h1]
   exact run_taken hT.1 (by omega)
end L3
end Go.AM
