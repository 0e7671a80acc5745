/-
  Contracts: how many cards fit some positions; by how much these are a gap.
-/
import Derived.Test.YteanoaejoddnbaaGreatU15
import Derived.Test.YteanoaejoddnbaaGreatU11
import Derived.Test.YteanoaejoddnbaaGreatU13
import Derived.Test.YteanoaejoddnbaaGreatU12
set_option linter.unusedSimpArgs false
set_option linter.unusedVariables false
namespace Go.AM
open Go.Proofs.Tryz
attribute [-go_sem] put_ne put_same
attribute [local go_sem ↓] put_if
theorem run_fit1 {base a b id p k:Nat} {h:Heap} {L:Lac} (ga:h[a]?=some (pB id)) (gb:h[b]?=some (nB (k:Int))) (hD:DskAt h id L) (hn:L.C.length≤7) (hp:p<L.C.length) (hk:k<L.C.length) :
  callL prog raw base (.fn 95 [] [.ptr (some ⟨a,0,0⟩),.ptr (some ⟨b,0,0⟩)]) [.int .i64 (p:Int)] h=some (.bool (fitB L p k),h):=by
 obtain ⟨cv,rv,hg,-,-⟩:=hD
 have la:=lt_of_get ga
 have lb:=lt_of_get gb
 have lid:=lt_of_get hg
 have ad1:=Fc.ad79 (id:=id) (ver:=0) (o:=3) (i:=(p:Int)) (by omega) (by omega)
 have ad2:=Fc.ad77 (id:=id) (ver:=0) (o:=3+p * 7) (i:=(k:Int)) (by omega) (by omega)
 rw [Int.toNat_natCast] at ad1 ad2
 rw [Nat.mul_one] at ad2
 have lb:=ld_dsk hg hn hp hk
 unfold pB at ga
 unfold nB at gb
 refine callL_run func95 rfl rfl ?_
 have hsp:=@Nat.succ_ne_zero;repeat' (first|simp (disch:=first|exact dq|fail) only [go_sem,↓reduceIte,hsp,ga,gb,ad1,ad2,lb]|refine WP_drw ?_|refine cnd_intro (fun hsp=>?_) fun hsp=>?_)
 exact fB rfl
set_option maxHeartbeats 1000000 in
theorem run_fitting {base id:Nat} {h:Heap} {v:AVal} {L:Lac} {l:List Int} (hD:DskAt h id L) (hn:L.C.length≤7) (hI:Ints h v l) (hl:∀ x ∈ l,0≤x∧x<(L.C.length:Int)) :
  callL prog raw base (.fn 47 [] []) [.ptr (some ⟨id,0,0⟩),v] h=some (.int .i64 (fittN L l:Int),h):=by
 have hD0:=hD
 obtain ⟨cv,rv,hg,hC,hR⟩:=hD
 have lid:=lt_of_get hg
 have ov:=hI.one
 obtain ⟨G,eG⟩:∃ G,G=h++[pB id]:=⟨_,rfl⟩
 have xG:Ext h G:=by rw [eG];exact .app .refl
 have gp:G[h.length]?=some (pB id):=by rw [eG];exact get_eq rfl
 have lG:G.length=h.length+1:=by rw [eG];simp
 have lc:=ld_cards (xG.get hg)
 have hlc:=lenI (hC.ext xG)
 have gp':=gp
 unfold pB at eG gp'
 obtain ⟨f,ef⟩:∃ f:Int→Bool,f=fun k=>l.any fun p=>fitB L p.toNat k.toNat:=⟨_,rfl⟩
 refine callL_run func47 rfl rfl ?_
 have hsp:=@Nat.succ_ne_zero;repeat' (first|simp (disch:=first|exact dq|fail) only [go_sem,↓reduceIte,hsp,← eG,gp',lc,hlc]|refine WP_drw ?_|refine cnd_intro (fun hsp=>?_) fun hsp=>?_)
 refine WP_count [(5,6),(13,21)] 0 L.C.length (Nat.zero_le _) (fun _ k fr H=>fr 13=.int .i64 (k:Int)∧Ext G H∧fr 5=.int .i64 ((((upto k).filter f).length:Nat):Int)) ?_ ?_ ?_
 ·exact ⟨by (simp (disch:=first|exact dq|fail) only [go_sem,↓reduceIte,Int.natCast_zero];first|done|rfl),.refl,by simp (disch:=first|exact dq|fail) only [go_sem,↓reduceIte];rfl⟩
 ·rintro k fr H hk0 hk hA ⟨r13,xH,r5⟩
  have q1:=hA 1 rfl
  have q2:=hA 2 rfl
  have q4:=hA 4 rfl
  have q12:=hA 12 rfl
  try simp (disch:=first|exact dq|fail) only [go_sem,↓reduceIte] at q1 q2 q4 q12
  have hlt:((k:Int)<(L.C.length:Int))=True:=eq_true (by omega)
  have lH:=xH.len
  have hfl:((upto k).filter f).length≤k:=Nat.le_trans (List.length_filter_le _ _) (by rw [upto_len];omega)
  obtain ⟨K,eK⟩:∃ K,K=H++[nB (k:Int)]:=⟨_,rfl⟩
  have xK:Ext H K:=by rw [eK];exact .app .refl
  have gK:K[H.length]?=some (nB (k:Int)):=by rw [eK];exact get_eq rfl
  have xGK:=xH.trans xK
  have lK:=xGK.len
  have hany:=any_I (base:=h.length) (h:=K) (v:=v) (g:=.fn 95 [] [.ptr (some ⟨h.length,0,0⟩),.ptr (some ⟨H.length,0,0⟩)]) (l:=l) (fun p=>fitB L p.toNat k) (by omega) ⟨rfl,rfl,rfl⟩ (hI.ext (xG.trans xGK)) (fun x hx=>by
   have hx2:=hl x hx
   obtain ⟨p,rfl⟩:=Int.eq_ofNat_of_zero_le hx2.1
   exact run_fit1 (xGK.get gp) gK (hD0.ext (xG.trans xGK)) hn (by omega) hk)
  have hfk:l.any (fun p=>fitB L p.toNat k)=f (k:Int):=by rw [ef];simp only [Int.toNat_natCast]
  rw [hfk] at hany
  have hup:=upto_filt (f:=f) (k:=k)
  unfold nB at eK gK
  cases c:f (k:Int) with
  | true =>
   rw [c] at hany hup
   rw [if_pos rfl] at hup
   have hlen:(((upto k).filter f).length:Int)+1=((((upto (k+1)).filter f).length:Nat):Int):=by rw [hup];simp
   have hsp:=@Nat.succ_ne_zero;repeat' (first|simp (disch:=first|exact dq|fail) only [go_sem,↓reduceIte,hsp,r13,r5,q1,q2,q4,q12,hlt,← eK,hany]|refine WP_drw ?_|refine cnd_intro (fun hsp=>?_) fun hsp=>?_)
   exact ⟨agq,by omega,xGK,hlen⟩
  | false =>
   rw [c] at hany hup
   rw [if_neg (by simp),List.append_nil] at hup
   have hsp:=@Nat.succ_ne_zero;repeat' (first|simp (disch:=first|exact dq|fail) only [go_sem,↓reduceIte,hsp,r13,r5,q1,q2,q4,q12,hlt,← eK,hany]|refine WP_drw ?_|refine cnd_intro (fun hsp=>?_) fun hsp=>?_)
   exact ⟨agq,by omega,xGK,by rw [hup]⟩
 ·rintro fr H hA ⟨r13,xH,r5⟩
  have q1:=hA 1 rfl
  have q2:=hA 2 rfl
  have q4:=hA 4 rfl
  have q12:=hA 12 rfl
  try simp (disch:=first|exact dq|fail) only [go_sem,↓reduceIte] at q1 q2 q4 q12
  have hlt:((L.C.length:Int)<(L.C.length:Int))=False:=eq_false (by omega)
  have hsp:=@Nat.succ_ne_zero;repeat' (first|simp (disch:=first|exact dq|fail) only [go_sem,↓reduceIte,hsp,r13,r5,q1,q2,q4,q12,hlt]|refine WP_drw ?_|refine cnd_intro (fun hsp=>?_) fun hsp=>?_)
  refine fI ?_ (xG.trans xH)
  rw [ef];rfl
theorem run_pos {base:Nat} {h:Heap} {T x:Int} {cv rv:AVal} {l:List Int} (hC:Ints h cv l) (o2:One rv):callL prog raw base (.fn 99 [.agg [.int .i64 T,cv,rv]] []) [.int .i64 x] h=some (.bool (decide (0≤x∧x≤(l.length:Int)-1)),h):=by
 have o1:=hC.one
 have hb:=hC.1.1
 obtain ⟨G,eG⟩:∃ G,G=h++[lacB T cv rv]:=⟨_,rfl⟩
 have xG:Ext h G:=by rw [eG];exact .app .refl
 have g0:G[h.length]?=some (lacB T cv rv):=by rw [eG];exact get_eq rfl
 have hl:=lenI (hC.ext xG)
 unfold lacB at eG g0
 refine callL_run func99 rfl rfl ?_
 have hsp:=@Nat.succ_ne_zero;repeat' (first|simp (disch:=first|exact dq|fail) only [go_sem,↓reduceIte,hsp,← eG,g0,hl]|refine WP_drw ?_|refine cnd_intro (fun hsp=>?_) fun hsp=>?_)
 exact fB rfl xG
def gpsE (L:Lac) (gap:List Int):Int × Int :=
 if chkL L ≠ 0 then (0,chkL L) else if ¬ (gap.all fun x=>decide (0≤x∧x≤(L.C.length:Int)-1))=true then (0,1) else if gap=[] ∨ sortB gap=false ∨ twB gap=true then (0,4) else
 if (gap.length:Int)-fittN L gap<1 then (0,6) else ((gap.length:Int)-fittN L gap,0)
set_option maxHeartbeats 2000000 in
theorem run_Gapes {base:Nat} {h:Heap} {v gv:AVal} {L:Lac} {gap:List Int} (hL:LacAt h v L) (hG:Ints h gv gap) :
  callL prog raw base (.fn 72 [] []) [v,gv] h=some (.tuple [.int .i64 (gpsE L gap).1,.int .i64 (gpsE L gap).2],h):=by
 have hL0:=hL
 obtain ⟨cv,rv,rfl,hC,hR⟩:=hL
 have o1:=hC.one
 have o2:=hR.one
 have o3:=hG.one
 have hgb:=hG.1.1
 obtain ⟨G0,eG0⟩:∃ G0,G0=h++[lacB L.T cv rv]:=⟨_,rfl⟩
 have x0:Ext h G0:=by rw [eG0];exact .app .refl
 have g0:G0[h.length]?=some (lacB L.T cv rv):=by rw [eG0];exact get_eq rfl
 have l0:G0.length=h.length+1:=by rw [eG0];simp
 obtain ⟨w1,H1,e1,x1,r1,r2⟩:=run_opened (base:=h.length) (h:=G0) (by omega) (hL0.ext x0)
 have l1:=x1.len
 have g1:=x1.get g0
 unfold lacB at eG0 g0 g1
 refine callL_run func72 rfl rfl ?_
 by_cases c0:chkL L=0
 ·obtain ⟨id,rfl,hid,hD⟩:=r2 c0
  have kn:=(chkL_iff.1 c0).n
  have xh:=x0.trans x1
  obtain ⟨H2,eH2⟩:∃ H2,H2=H1++[evB (.fn 99 [.agg [.int .i64 L.T,cv,rv]] [])]:=⟨_,rfl⟩
  have x2:Ext H1 H2:=by rw [eH2];exact .app .refl
  have xh2:=xh.trans x2
  have hev:=every_I (base:=h.length) (h:=H1) (v:=gv) (g:=.fn 99 [.agg [.int .i64 L.T,cv,rv]] []) (l:=gap) (fun x=>decide (0≤x∧x≤(L.C.length:Int)-1)) (by omega) ⟨rfl,rfl,rfl⟩ (hG.ext xh) (fun x _=>run_pos (hC.ext (xh.trans (.app .refl))) o2)
  rw [← eH2] at hev
  have hGl:=lenI (hG.ext xh2)
  have hst:=fun base=>run_sorted (base:=base) (hG.ext xh2)
  have htw:=fun base=>run_twice (base:=base) (hG.ext xh2)
  cases c1:gap.all (fun x=>decide (0≤x∧x≤(L.C.length:Int)-1)) with
  | false =>
   rw [c1] at hev
   have hsp:=@Nat.succ_ne_zero;repeat' (first|simp (disch:=first|exact dq|fail) only [go_sem,↓reduceIte,hsp,← eG0,g0,e1,eq_self,g1,hev]|refine WP_drw ?_|refine cnd_intro (fun hsp=>?_) fun hsp=>?_)
   have r:gpsE L gap=(0,1):=by unfold gpsE;rw [if_neg (by simp [c0]),if_pos (by rw [c1];simp)]
   rw [r]
   exact fII rfl rfl xh2
  | true =>
   rw [c1] at hev
   have hin:∀ x ∈ gap,0≤x∧x<(L.C.length:Int):=fun x hx=>by have:=of_decide_eq_true (List.all_eq_true.1 c1 x hx);omega
   have hft:=fun base=>run_fitting (base:=base) (hD.ext x2) kn.2 (hG.ext xh2) hin
   have hfn:fittN L gap≤7:=Nat.le_trans (List.length_filter_le _ _) (by rw [upto_len];exact kn.2)
   have u1:¬ (¬ (gap.all fun x=>decide (0≤x∧x≤(L.C.length:Int)-1))=true):=by rw [c1];simp
   by_cases c2:gap=[]
   ·have t2:((gap.length:Int)=0)=True:=eq_true (by rw [c2];rfl)
    have hsp:=@Nat.succ_ne_zero;repeat' (first|simp (disch:=first|exact dq|fail) only [go_sem,↓reduceIte,hsp,← eG0,g0,e1,eq_self,g1,hev,hGl,t2]|refine WP_drw ?_|refine cnd_intro (fun hsp=>?_) fun hsp=>?_)
    have r:gpsE L gap=(0,4):=by unfold gpsE;rw [if_neg (by simp [c0]),if_neg u1,if_pos (.inl c2)]
    rw [r]
    exact fII rfl rfl xh2
   ·have hgp:0<gap.length:=by cases q:gap with|nil=>exact absurd q c2|cons a b=>simp
    have t2:((gap.length:Int)=0)=False:=eq_false (by omega)
    cases c3:sortB gap with
    | false =>
     rw [c3] at hst
     have hsp:=@Nat.succ_ne_zero;repeat' (first|simp (disch:=first|exact dq|fail) only [go_sem,↓reduceIte,hsp,← eG0,g0,e1,eq_self,g1,hev,hGl,t2,hst]|refine WP_drw ?_|refine cnd_intro (fun hsp=>?_) fun hsp=>?_)
     have r:gpsE L gap=(0,4):=by unfold gpsE;rw [if_neg (by simp [c0]),if_neg u1,if_pos (.inr (.inl c3))]
     rw [r]
     exact fII rfl rfl xh2
    | true =>
     rw [c3] at hst
     cases c4:twB gap with
     | true =>
      rw [c4] at htw
      have hsp:=@Nat.succ_ne_zero;repeat' (first|simp (disch:=first|exact dq|fail) only [go_sem,↓reduceIte,hsp,← eG0,g0,e1,eq_self,g1,hev,hGl,t2,hst,htw]|refine WP_drw ?_|refine cnd_intro (fun hsp=>?_) fun hsp=>?_)
      have r:gpsE L gap=(0,4):=by unfold gpsE;rw [if_neg (by simp [c0]),if_neg u1,if_pos (.inr (.inr c4))]
      rw [r]
      exact fII rfl rfl xh2
     | false =>
      rw [c4] at htw
      have u2:¬ (gap=[] ∨ sortB gap=false ∨ twB gap=true):=by rw [c3,c4];simp [c2]
      by_cases c5:(gap.length:Int)-fittN L gap<1
      ·have t5:((gap.length:Int)-(fittN L gap:Int)<1)=True:=eq_true c5
       have hsp:=@Nat.succ_ne_zero;repeat' (first|simp (disch:=first|exact dq|fail) only [go_sem,↓reduceIte,hsp,← eG0,g0,e1,eq_self,g1,hev,hGl,t2,hst,htw,hft,t5]|refine WP_drw ?_|refine cnd_intro (fun hsp=>?_) fun hsp=>?_)
       have r:gpsE L gap=(0,6):=by unfold gpsE;rw [if_neg (by simp [c0]),if_neg u1,if_neg u2,if_pos c5]
       rw [r]
       exact fII rfl rfl xh2
      ·have t5:((gap.length:Int)-(fittN L gap:Int)<1)=False:=eq_false c5
       have hsp:=@Nat.succ_ne_zero;repeat' (first|simp (disch:=first|exact dq|fail) only [go_sem,↓reduceIte,hsp,← eG0,g0,e1,eq_self,g1,hev,hGl,t2,hst,htw,hft,t5]|refine WP_drw ?_|refine cnd_intro (fun hsp=>?_) fun hsp=>?_)
       have r:gpsE L gap=((gap.length:Int)-fittN L gap,0):=by unfold gpsE;rw [if_neg (by simp [c0]),if_neg u1,if_neg u2,if_neg c5]
       rw [r]
       exact fII rfl rfl xh2
 ·have t0:(chkL L=0)=False:=eq_false c0
  have r:=r1 c0
  subst r
  have hsp:=@Nat.succ_ne_zero;repeat' (first|simp (disch:=first|exact dq|fail) only [go_sem,↓reduceIte,hsp,← eG0,g0,e1,t0,g1]|refine WP_drw ?_|refine cnd_intro (fun hsp=>?_) fun hsp=>?_)
  have re:gpsE L gap=(0,chkL L):=by unfold gpsE;rw [if_pos c0]
  rw [re]
  exact fII rfl rfl (x0.trans x1)
end Go.AM
namespace Go.AM
open Go.Proofs.Tryz
def Off (X:List Nat) (v:AVal):Prop:=∀ r n c,v=.slice (some r) n c→r.id ∉ X
theorem Own.off {α:Type} {E:Enc α} {e:TypeId} {b:Nat} {h:Heap} {v:AVal} {l:List α} {X:List Nat} (x:Own E e b h v l) (hX:∀ i ∈ X,i<b):Off X v:=by
 intro r n c q hm
 rcases x with ⟨rfl,_⟩|⟨id,ver,rfl,_,h2,_⟩
 ·cases q
 ·cases q
  have:id<b:=hX _ hm
  omega
def KeepX (ob:Nat) (H H':Heap):Prop:=H.length≤H'.length∧∀ i b,i ≠ ob→H[i]?=some b→H'[i]?=some b
section
variable {ob:Nat} {H H' H2 h:Heap}
theorem KeepX.refl:KeepX ob H H:=⟨Nat.le_refl _,fun _ _ _ h=>h⟩
theorem KeepX.trans (a:KeepX ob H H') (b:KeepX ob H' H2):KeepX ob H H2:=⟨Nat.le_trans a.1 b.1,fun i k hi h=>b.2 i k hi (a.2 i k hi h)⟩
theorem KeepX.ofExt (e:Ext H H'):KeepX ob H H':=⟨e.len,fun _ _ _ h=>e.get h⟩
theorem KeepX.set {k:ABlk} (a:KeepX ob H H'):KeepX ob H (H'.set ob k):=⟨by rw [List.length_set];exact a.1,fun i b hi h=>by rw [List.getElem?_set_ne (fun e=>hi e.symm)];exact a.2 i b hi h⟩
theorem KeepX.own {α:Type} {E:Enc α} {e:TypeId} {b:Nat} {v:AVal} {l:List α} (a:KeepX ob H H') (x:Own E e b H v l) (hv:Off [ob] v):Own E e b H' v l:=by
 rcases x with ⟨rfl,rfl⟩|⟨id,ver,rfl,h1,h2,h3⟩
 ·exact .nil
 ·exact .inr ⟨id,ver,rfl,a.2 id _ (fun e=>hv _ _ _ rfl (by rw [e];simp)) h1,h2,h3⟩
theorem KeepX.ext (a:KeepX ob H H') (e:Ext h H) (hb:h.length≤ob):Ext h H':=by
 refine ⟨H'.drop h.length,?_⟩
 have hl:=e.len
 have:H'.take h.length=h:=by
  refine List.ext_getElem? fun i=>?_
  rw [List.getElem?_take]
  split
  ·rename_i hi
   have h1:h[i]?=some h[i]:=List.getElem?_eq_getElem hi
   rw [h1]
   exact a.2 i _ (by omega) (e.get h1)
  ·rename_i hi
   rw [List.getElem?_eq_none (by omega)]
 have h2:=List.take_append_drop h.length H'
 rw [this] at h2
 exact h2.symm
end
theorem run_cloneI {base:Nat} {h:Heap} {v:AVal} {l:List Int} (hO:Own encI 3 0 h v l) (hs:Small l):∃ v' H,callL prog raw base (.fn 28 [] []) [v] h=some (v',H)∧Ext h H∧Own encI 3 h.length H v' l:=by
 have hI:=(hO.rows (by have:=hs.1;omega)).ints hs.2
 have hc:=run_clone (base:=base) hI hs
 rcases hO with ⟨rfl,rfl⟩|⟨id,ver,rfl,h1,h2,h3⟩
 ·refine ⟨_,_,hc,?_,?_⟩
  ·simp only [cloneH];exact .app .refl
  ·simp only [cloneV,nilB,if_true];exact Own.nil
 ·have hne:l ≠ []:=fun e=>by rw [e] at h3;simp at h3
  have e1:nilB (.slice (some ⟨id,ver,0⟩) l.length l.length)=false:=rfl
  rw [cloneV,cloneH,if_neg (by simp [e1]),if_neg (by simp [e1]),newV_ne hne,newH_ne hne] at hc
  refine ⟨_,_,hc,.app .refl,.inr ⟨h.length,0,rfl,?_,Nat.le_refl _,h3⟩⟩
  rw [get_eq rfl,rowB,rowE,flat_encI]
end Go.AM
namespace Go.AM
open Go.Proofs.Tryz
attribute [-go_sem] put_ne put_same
attribute [local go_sem ↓] put_if
def mrV (M O S D R:Nat):AVal:=.fn 93 [] [.ptr (some ⟨M,0,0⟩),.ptr (some ⟨O,0,0⟩),.ptr (some ⟨S,0,0⟩),.ptr (some ⟨D,0,0⟩),.ptr (some ⟨R,0,0⟩)]
abbrev mrB (f:AVal):ABlk:=⟨.cells [f] 55 false false,0⟩
structure FrsAt (h H:Heap) (M O S D R many id:Nat) (g:AVal):Prop where
 ext:Ext h H
 ne:M ≠ O∧S ≠ O∧D ≠ O∧R ≠ O
 m:H[M]?=some (nB (many:Int))
 s:H[S]?=some (fnB g)
 d:H[D]?=some (pB id)
 r:H[R]?=some (mrB (mrV M O S D R))
theorem FrsAt.keep {h H H':Heap} {M O S D R many id:Nat} {g:AVal} (x:FrsAt h H M O S D R many id g) (k:KeepX O H H') (hO:h.length≤O):FrsAt h H' M O S D R many id g :=
 ⟨k.ext x.ext hO,x.ne,k.2 _ _ x.ne.1 x.m,k.2 _ _ x.ne.2.1 x.s,k.2 _ _ x.ne.2.2.1 x.d,k.2 _ _ x.ne.2.2.2 x.r⟩
def OutI (O:Nat) (o:Option (List Int)) (H:Heap):Prop:=∃ v,H[O]?=some (lB v)∧match o with|none=>v=.slice none 0 0|some l=>Own encI 3 (O+1) H v l
theorem OutI.ext {O:Nat} {o:Option (List Int)} {H H':Heap} (x:OutI O o H) (e:Ext H H'):OutI O o H':=by
 obtain ⟨v,h1,h2⟩:=x
 refine ⟨v,e.get h1,?_⟩
 cases o with
 | none=>exact h2
 | some l=>exact Own.ext h2 e
theorem stL38 {base:Nat} {l:List Oper} {s:St} {Q:AExit→St→Prop}:WP prog raw base (.region 7 l.toArray true) s Q=WPS prog raw base (.region 7 l.toArray true) s Q:=WP_stop
attribute [local go_sem ↓ 3000] stL38
theorem upto_getD {n i:Nat} (h:i<n):(upto n).getD i 0=(i:Int):=lst_get h
section
variable {base M O S D R many id:Nat} {h:Heap} {g:AVal} {L:Lac} {p:List Int→Bool}
set_option maxRecDepth 100000 in
set_option maxHeartbeats 4000000 in
theorem run_frs1 (hb:base≤h.length) (hg:One g) (hO:h.length≤O) (hD:DskAt h id L) (hn:L.C.length≤7) (hcb:∀ H sv l,Ext h H→O<H.length→Own encI 3 (O+1) H sv l→(∀ x ∈ l,0≤x∧x<(L.C.length:Int))→l.length≤L.C.length→callL prog raw base g [sv] H=some (.bool (p l),H)) (hmany:many≤L.C.length) :
  ∀ (d:Nat) {l:List Int} {a:Nat} {lv:AVal} {H:Heap} {o:Option (List Int)},l.length+d=many→O<H.length→Own encI 3 (O+1) H lv l→(∀ x ∈ l,0≤x∧x<(L.C.length:Int))→a≤L.C.length→FrsAt h H M O S D R many id g→OutI O o H →
  Ret prog raw base (mrV M O S D R) [lv,.int .i64 (a:Int)] H (fun v H'=>v=.bool (visF p (lexC (upto L.C.length) d l a) o).1∧KeepX O H H'∧OutI O (visF p (lexC (upto L.C.length) d l a) o).2 H'):=by
 intro d
 induction d with
 | zero =>
  intro l a lv H o hl hob hL hin ha hF hI
  obtain ⟨x0,⟨n1,n2,n3,n4⟩,m1,m2,m3,m4⟩:=hF
  obtain ⟨v0,g0,_⟩:=hI
  have ol:=hL.one
  have hll:=own_len hL Fc.el22 (by omega)
  have t1:((l.length:Int)=(many:Int))=True:=eq_true (by omega)
  obtain ⟨H2,eH2⟩:∃ H2,H2=H.set O (lB lv):=⟨_,rfl⟩
  have k2:KeepX O H H2:=by rw [eH2];exact KeepX.refl.set
  have g2:H2[O]?=some (lB lv):=by rw [eH2,List.getElem?_set_self hob]
  have hL2:Own encI 3 (O+1) H2 lv l:=by rw [eH2];exact hL.set (by omega)
  have ms2:=k2.2 _ _ n2 m2
  have e1:=hcb H2 lv l (k2.ext x0 hO) (by have:=k2.1;omega) hL2 hin (by omega)
  have r:visF p (lexC (upto L.C.length) 0 l a) o=(p l,some l):=by
   simp only [lexC,visF]
   cases p l<;>rfl
  rw [r]
  unfold nB at m1
  unfold lB at g0 eH2
  unfold fnB at ms2
  have hbO:base≤O:=by omega
  refine ret_raw func93 rfl (by kernel_rfl) ?_
  have hsp:=@Nat.succ_ne_zero;repeat' (first|simp (disch:=first|exact dq|fail) only [go_sem,↓reduceIte,hsp,hll,m1,t1,g0,← eH2,ms2,e1]|refine WP_drw ?_|refine cnd_intro (fun hsp=>?_) fun hsp=>?_)
  exact ⟨k2,lv,g2,hL2⟩
 | succ d ih =>
  intro l a lv H o hl hob hL hin ha hF hI
  have hF0:=hF
  obtain ⟨x0,⟨n1,n2,n3,n4⟩,m1,m2,m3,m4⟩:=hF
  have ol:=hL.one
  have hll:=own_len hL Fc.el22 (by omega)
  have t1:((l.length:Int)=(many:Int))=False:=eq_false (by omega)
  unfold nB at m1
  refine ret_raw func93 rfl (by kernel_rfl) ?_
  have hsp:=@Nat.succ_ne_zero;repeat' (first|simp (disch:=first|exact dq|fail) only [go_sem,↓reduceIte,hsp,hll,m1,t1]|refine WP_drw ?_|refine cnd_intro (fun hsp=>?_) fun hsp=>?_)
  refine WP_count [(9,38)] 0 (L.C.length-a) (Nat.zero_le _) (fun _ j fr K=>fr 10=.int .i64 ((a+j:Nat):Int)∧KeepX O H K∧(visF p (lexP (upto L.C.length) d l a j) o).1=false∧OutI O (visF p (lexP (upto L.C.length) d l a j) o).2 K) ?_ ?_ ?_
  ·exact ⟨by (simp (disch:=first|exact dq|fail) only [go_sem,↓reduceIte,Int.natCast_zero];first|done|rfl),.refl,rfl,hI⟩
  ·rintro j fr H1 hj0 hj hA ⟨r10,xK,hv,hi1⟩
   have q0:=hA 0 rfl
   have q5:=hA 5 rfl
   have q6:=hA 6 rfl
   try simp (disch:=first|exact dq|fail) only [go_sem,↓reduceIte] at q0 q5 q6
   obtain ⟨x1,_,q1,q2,q3,q4⟩:=hF0.keep xK hO
   have hlk:=xK.1
   have hL1:=xK.own hL (hL.off (X:=[O]) fun i hi=>by rw [List.mem_singleton] at hi;omega)
   have hlt:(((a+j:Nat):Int)<(L.C.length:Int))=True:=eq_true (by omega)
   obtain ⟨cv,rv,hdg,hC,-⟩:=hD.ext x1
   have lc:=ld_cards hdg
   have hlc:=lenI hC
   have oc:=hC.one
   unfold pB at q3
   have hsp:=@Nat.succ_ne_zero;repeat' (first|simp (disch:=first|exact dq|fail) only [go_sem,↓reduceIte,hsp,r10,q0,q5,q6,q3,lc,hlc,hlt]|refine WP_drw ?_|refine cnd_intro (fun hsp=>?_) fun hsp=>?_)
   refine WPS_go ?_
   obtain ⟨x,ex⟩:∃ x:Nat,x=a+j:=⟨_,rfl⟩
   have hsmall:Small l:=⟨by omega,fun y hy=>by have:=hin y hy;omega⟩
   obtain ⟨cw,H2,e2,x2,o2⟩:=run_cloneI (base:=base) (hL1.low (Nat.zero_le _)) hsmall
   have hl2:=x2.len
   have ocw:=o2.one
   obtain ⟨v',H3,ea,oV,hle,hE,hV1⟩:=o2.append1 (y:=(x:Int)) (base:=base) (t:=22) rfl rfl Fc.el22 encI_sc (by have:=x1.len;omega) hl2 (by omega)
   have x3:Ext H1 H3:=hE H1 (Nat.le_refl _) x2
   have hl3:=x3.len
   have k3:KeepX O H1 H3:=.ofExt x3
   have hs2:∀ y ∈ l++[(x:Int)],0≤y∧y<(L.C.length:Int):=fun y hy=>by
    rcases List.mem_append.1 hy with q|q
    ·exact hin y q
    ·simp at q;omega
   obtain ⟨rv4,H4,e4,rfl,k4,i4⟩:=ih (l:=l++[(x:Int)]) (a:=a+j+1) (lv:=v') (H:=H3) (o:=(visF p (lexP (upto L.C.length) d l a j) o).2) (by simp;omega) (by omega) (oV.low (by omega)) hs2 (by omega) ((hF0.keep xK hO).keep k3 hO) (hi1.ext x3)
   have hjj:((x:Int)+1)=((a+j+1:Nat):Int):=by omega
   have g42:=x2.get q4
   have g43:=x3.get q4
   have hlow1:refsLow H1.length (mrV M O S D R):=by
    have a1:=lt_of_get q1
    have a2:=lt_of_get q2
    have a3:=lt_of_get q3
    have a4:=lt_of_get q4
    have a5:O<H1.length:=by omega
    simp [refsLow,mrV,AVal.refs,refsL,a1,a2,a3,a4,a5]
   have hsp:=visF_app (p:=p) (a:=lexP (upto L.C.length) d l a j) (b:=lexC (upto L.C.length) d (l++[(x:Int)]) (a+j+1)) (o:=o)
   have hgx:(upto L.C.length).getD (a+j) 0=(x:Int):=by rw [upto_getD (by omega),ex]
   rw [← hgx,← lexP_succ,hgx,if_neg (by simp [hv])] at hsp
   rw [← hsp] at e4 i4
   obtain ⟨res,eres⟩:∃ res,res=visF p (lexP (upto L.C.length) d l a (j+1)) o:=⟨_,rfl⟩
   rw [← eres] at e4 i4 ⊢
   have r10':fr 10=.int .i64 (x:Int):=by rw [r10,ex]
   have hom:One (mrV M O S D R):=⟨rfl,rfl,rfl⟩
   unfold mrB at q4 g42 g43
   have hom4:=hV1
   refine WP_wild [⟨0,55,6,⟨R,0,0⟩,mrV M O S D R,8⟩] (by kernel_rfl) (by kernel_rfl) (by kernel_rfl) ⟨hlow1,trivial⟩ fun K hK=>?_
   iterate 9
    rw [TRS_cons]
    refine ⟨by first|(simp (disch:=first|exact dq|fail) only [go_sem,↓reduceIte,r10',q0,q5,q6,q4,g42,g43,e2,ea,hjj,e4,ldsQ_cons,ldsQ_nil,grdQ_cons,grdQ_nil,if_true,Nat.reduceLeDiff];done)|exact trivial,?_⟩
    simp (disch:=first|exact dq|fail) only [go_sem,↓reduceIte,r10',q0,q5,q6,q4,g42,g43,e2,ea,hjj,e4]
   rw [TRS_nil]
   refine ⟨by first|(simp (disch:=first|exact dq|fail) only [go_sem,↓reduceIte,r10',q0,q5,q6,q4,g42,g43,e2,ea,hjj,e4,ldsQ_cons,ldsQ_nil,grdQ_cons,grdQ_nil,if_true,Nat.reduceLeDiff];done)|exact trivial,?_⟩
   subst hK
   have hkf:KeepX O H H4:=(xK.trans k3).trans k4
   cases hres:res.1 with
   | true =>
    have hwh:visF p (lexC (upto L.C.length) (d+1) l a) o=res:=by
     obtain ⟨s,e⟩:=lexP_pre (of:=upto L.C.length) (l:=l) (d:=d) (a:=a) (j:=j+1) ((upto L.C.length).length-a-(j+1))
     rw [show j+1+((upto L.C.length).length-a-(j+1))=(upto L.C.length).length-a by rw [upto_len];omega] at e
     show visF p (lexP (upto L.C.length) d l a ((upto L.C.length).length-a)) o=res
     rw [e,visF_app,if_pos (by rw [← eres];exact hres),eres]
    have hsp:=@Nat.succ_ne_zero;repeat' (first|simp (disch:=first|exact dq|fail) only [go_sem,↓reduceIte,hsp,q0,q5,q6,hres]|refine WP_drw ?_|refine cnd_intro (fun hsp=>?_) fun hsp=>?_)
    rw [hwh]
    exact ⟨by rw [hres],hkf,i4⟩
   | false =>
    have hsp:=@Nat.succ_ne_zero;repeat' (first|simp (disch:=first|exact dq|fail) only [go_sem,↓reduceIte,hsp,r10,q0,q5,q6,hres]|refine WP_drw ?_|refine cnd_intro (fun hsp=>?_) fun hsp=>?_)
    exact ⟨agq,by first|rfl|omega,hkf,i4⟩
  ·rintro fr H1 hA ⟨r10,xK,hv,hi1⟩
   have q0:=hA 0 rfl
   have q5:=hA 5 rfl
   have q6:=hA 6 rfl
   try simp (disch:=first|exact dq|fail) only [go_sem,↓reduceIte] at q0 q5 q6
   obtain ⟨x1,_,q1,q2,q3,q4⟩:=hF0.keep xK hO
   have hlt:(((a+(L.C.length-a):Nat):Int)<(L.C.length:Int))=False:=eq_false (by omega)
   obtain ⟨cv,rv,hdg,hC,-⟩:=hD.ext x1
   have lc:=ld_cards hdg
   have hlc:=lenI hC
   have oc:=hC.one
   unfold pB at q3
   have hsp:=@Nat.succ_ne_zero;repeat' (first|simp (disch:=first|exact dq|fail) only [go_sem,↓reduceIte,hsp,r10,q0,q5,q6,q3,lc,hlc,hlt]|refine WP_drw ?_|refine cnd_intro (fun hsp=>?_) fun hsp=>?_)
   have hex:visF p (lexC (upto L.C.length) (d+1) l a) o=visF p (lexP (upto L.C.length) d l a (L.C.length-a)) o:=by
    show visF p (lexP (upto L.C.length) d l a ((upto L.C.length).length-a)) o=_
    rw [upto_len]
   rw [hex]
   exact ⟨by rw [hv],xK,hi1⟩
end
end Go.AM
namespace Go.AM
open Go.Proofs.Tryz
attribute [-go_sem] put_ne put_same
attribute [local go_sem ↓] put_if
def preS (n i:Nat):List (List Int):=(List.range i).flatMap fun m=>lexC (upto n) m [] 0
theorem preS_succ {n i:Nat}:preS n (i+1)=preS n i++lexC (upto n) i [] 0:=by unfold preS;rw [List.range_succ,List.flatMap_append];simp
theorem preS_all {n:Nat}:preS n (n+1)=allS n:=rfl
theorem preS_pre {n i:Nat}:∀ k,∃ s,preS n (i+k)=preS n i++s
 | 0=>⟨[],by simp⟩
 | k+1=>by
  obtain ⟨s,e⟩:=preS_pre (n:=n) (i:=i) k
  exact ⟨s++lexC (upto n) (i+k) [] 0,by rw [show i+(k+1)=(i+k)+1 by omega,preS_succ,e,List.append_assoc]⟩
def ResI (b:Nat) (o:Option (List Int)) (H:Heap) (x:AVal):Prop:=match o with|none=>x=.slice none 0 0|some l=>Own encI 3 b H x l
theorem OutI.res {b O:Nat} {o:Option (List Int)} {H:Heap} (x:OutI O o H) (hb:b≤O):∃ v,H[O]?=some (lB v)∧One v∧ResI b o H v:=by
 obtain ⟨v,h1,h2⟩:=x
 cases o with
 | none=>exact ⟨v,h1,by rw [h2];exact ⟨rfl,rfl,rfl⟩,h2⟩
 | some l=>exact ⟨v,h1,Own.one h2,Own.low h2 (by omega)⟩
set_option maxRecDepth 100000 in
set_option maxHeartbeats 2000000 in
theorem run_first {base id:Nat} {h:Heap} {g:AVal} {L:Lac} {p:List Int→Bool} (hb:base≤h.length) (hg:One g) (hD:DskAt h id L) (hn:L.C.length≤7)
  (hcb:∀ O H sv l,h.length≤O→Ext h H→O<H.length→Own encI 3 (O+1) H sv l→(∀ x ∈ l,0≤x∧x<(L.C.length:Int))→l.length≤L.C.length→callL prog raw base g [sv] H=some (.bool (p l),H)) :
  Ret prog raw base (.fn 45 [] []) [.ptr (some ⟨id,0,0⟩),g] h (fun w H=>Ext h H∧∃ x,w=.tuple [x,.bool (visF p (allS L.C.length) none).1]∧ResI h.length (visF p (allS L.C.length) none).2 H x):=by
 obtain ⟨n,en⟩:∃ n,L.C.length=n:=⟨_,rfl⟩
 obtain ⟨G,eG⟩:∃ G,G=h++[pB id]++[fnB g]++[lB (.slice none 0 0)]:=⟨_,rfl⟩
 have xG:Ext h G:=by rw [eG];exact .app (.app (.app .refl))
 have lG:G.length=h.length+3:=by rw [eG];simp
 have gD:G[h.length]?=some (pB id):=by rw [eG];exact get_app (get_app (get_eq rfl))
 have gS:G[h.length+1]?=some (fnB g):=by rw [eG];exact get_app (get_eq (by simp))
 have gO:G[h.length+1+1]?=some (lB (.slice none 0 0)):=by rw [eG];exact get_eq (by simp)
 obtain ⟨cv,rv,hdg,hC,-⟩:=hD.ext xG
 have lc:=ld_cards hdg
 have hlc:=lenI hC
 rw [en] at hlc
 have oc:=hC.one
 have gD':=gD
 unfold pB fnB lB at eG
 unfold pB at gD'
 obtain ⟨O,eO⟩:∃ O,O=h.length+1+1:=⟨_,rfl⟩
 rw [← eO] at gO
 refine ret_raw func45 rfl (by kernel_rfl) ?_
 have hsp:=@Nat.succ_ne_zero;repeat' (first|simp (disch:=first|exact dq|fail) only [go_sem,↓reduceIte,hsp,← eG,gD',lc,hlc,← eO]|refine WP_drw ?_|refine cnd_intro (fun hsp=>?_) fun hsp=>?_)
 refine WP_count [(7,9),(17,24)] 0 (n+1) (Nat.zero_le _) (fun _ i fr K=>fr 17=.int .i64 (i:Int)∧fr 7=.bool false∧KeepX O G K∧(visF p (preS n i) none).1=false∧OutI O (visF p (preS n i) none).2 K) ?_ ?_ ?_
 ·exact ⟨by (simp (disch:=first|exact dq|fail) only [go_sem,↓reduceIte,Int.natCast_zero];first|done|rfl),by simp (disch:=first|exact dq|fail) only [go_sem,↓reduceIte],.refl,rfl,_,gO,rfl⟩
 ·rintro i fr K hi0 hi hA ⟨r17,r7,kK,hv,hI⟩
  have q2:=hA 2 rfl
  have q3:=hA 3 rfl
  have q4:=hA 4 rfl
  have q5:=hA 5 rfl
  have q6:=hA 6 rfl
  have q16:=hA 16 rfl
  try simp (disch:=first|exact dq|fail) only [go_sem,↓reduceIte] at q2 q3 q4 q5 q6 q16
  have hlt:((i:Int)<(n:Int)+1)=True:=eq_true (by omega)
  have lK:=kK.1
  obtain ⟨K1,eK1⟩:∃ K1,K1=K++[nB (i:Int)]++[mrB (mrV K.length O (h.length+1) h.length (K.length+1))]:=⟨_,rfl⟩
  have x1:Ext K K1:=by rw [eK1];exact .app (.app .refl)
  have l1:K1.length=K.length+2:=by rw [eK1];simp
  have gM:K1[K.length]?=some (nB (i:Int)):=by rw [eK1];exact get_app (get_eq rfl)
  have gR:K1[K.length+1]?=some (mrB (mrV K.length O (h.length+1) h.length (K.length+1))):=by rw [eK1];exact get_eq (by simp)
  have hF:FrsAt h K1 K.length O (h.length+1) h.length (K.length+1) i id g:=⟨(kK.ext xG (by omega)).trans x1,⟨by omega,by omega,by omega,by omega⟩,gM,x1.get (kK.2 _ _ (by omega) gS),x1.get (kK.2 _ _ (by omega) gD),gR⟩
  obtain ⟨w2,K2,e2,rfl,k2,i2⟩:=run_frs1 (base:=base) (M:=K.length) (O:=O) (S:=h.length+1) (D:=h.length) (R:=K.length+1) (many:=i) (p:=p) hb hg (by omega) hD hn (fun H sv l y1 y2=>hcb O H sv l (by omega) y1 y2) (by omega) i (l:=[]) (a:=0) (lv:=.slice none 0 0) (H:=K1) (o:=(visF p (preS n i) none).2) (by simp) (by omega) Own.nil (fun x hx=>by cases hx) (Nat.zero_le _) hF (hI.ext x1)
  have hsp:=visF_app (p:=p) (a:=preS n i) (b:=lexC (upto n) i [] 0) (o:=none)
  rw [← preS_succ,if_neg (by simp [hv])] at hsp
  rw [en,← hsp] at e2 i2
  have hkf:KeepX O G K2:=(kK.trans (.ofExt x1)).trans k2
  unfold nB mrB at eK1
  unfold mrB at gR
  unfold mrV at e2 eK1 gR
  obtain ⟨res,eres⟩:∃ res,res=visF p (preS n (i+1)) none:=⟨_,rfl⟩
  rw [← eres] at e2 i2 ⊢
  rw [Int.natCast_zero] at e2
  cases hres:res.1 with
  | true =>
   rw [hres] at e2
   obtain ⟨v,g1,g2,g3⟩:=i2.res (b:=h.length) (by omega)
   have hwh:visF p (allS n) none=res:=by
    obtain ⟨s,e⟩:=preS_pre (n:=n) (i:=i+1) (n-i)
    rw [show i+1+(n-i)=n+1 by omega] at e
    rw [← preS_all,e,visF_app,if_pos (by rw [← eres];exact hres),eres]
   rw [en,hwh]
   unfold lB at g1
   have hsp:=@Nat.succ_ne_zero;repeat' (first|simp (disch:=first|exact dq|fail) only [go_sem,↓reduceIte,hsp,r17,q2,q3,q4,q5,q6,q16,hlt,← eK1,gR,e2,g1]|refine WP_drw ?_|refine cnd_intro (fun hsp=>?_) fun hsp=>?_)
   exact ⟨hkf.ext xG (by omega),v,by rw [hres],g3⟩
  | false =>
   rw [hres] at e2
   have hsp:=@Nat.succ_ne_zero;repeat' (first|simp (disch:=first|exact dq|fail) only [go_sem,↓reduceIte,hsp,r17,q2,q3,q4,q5,q6,q16,hlt,← eK1,gR,e2]|refine WP_drw ?_|refine cnd_intro (fun hsp=>?_) fun hsp=>?_)
   exact ⟨agq,by omega,hkf,i2⟩
 ·rintro fr K hA ⟨r17,r7,kK,hv,hI⟩
  have q2:=hA 2 rfl
  have q3:=hA 3 rfl
  have q4:=hA 4 rfl
  have q5:=hA 5 rfl
  have q6:=hA 6 rfl
  have q16:=hA 16 rfl
  try simp (disch:=first|exact dq|fail) only [go_sem,↓reduceIte] at q2 q3 q4 q5 q6 q16
  have hlt:(((n+1:Nat):Int)<(n:Int)+1)=False:=eq_false (by omega)
  obtain ⟨v,g1,g2,g3⟩:=hI.res (b:=h.length) (by omega)
  rw [preS_all] at hv g3
  rw [en]
  unfold lB at g1
  have hsp:=@Nat.succ_ne_zero;repeat' (first|simp (disch:=first|exact dq|fail) only [go_sem,↓reduceIte,hsp,r17,r7,q2,q3,q4,q5,q6,q16,hlt,g1]|refine WP_drw ?_|refine cnd_intro (fun hsp=>?_) fun hsp=>?_)
  exact ⟨kK.ext xG (by omega),v,by rw [hv],g3⟩
end Go.AM
namespace Go.AM
open Go.Proofs.Tryz
attribute [-go_sem] put_ne put_same
attribute [local go_sem ↓] put_if
theorem run_gap1 {base D id:Nat} {h:Heap} {v:AVal} {L:Lac} {l:List Int} (gD:h[D]?=some (pB id)) (hD:DskAt h id L) (hn:L.C.length≤7) (hI:Ints h v l) (hl:∀ x ∈ l,0≤x∧x<(L.C.length:Int)) :
  callL prog raw base (.fn 46 [] [.ptr (some ⟨D,0,0⟩)]) [v] h=some (.bool (gapP L l),h):=by
 have ov:=hI.one
 have hft:=fun base=>run_fitting (base:=base) hD hn hI hl
 have hlo:=lenI hI
 have lb:=lt_of_get gD
 unfold pB at gD
 refine callL_run func46 rfl rfl ?_
 have hsp:=@Nat.succ_ne_zero;repeat' (first|simp (disch:=first|exact dq|fail) only [go_sem,↓reduceIte,hsp,gD,hft,hlo]|refine WP_drw ?_|refine cnd_intro (fun hsp=>?_) fun hsp=>?_)
 refine fB ?_
 unfold gapP
 exact decide_eq_decide.2 (by omega)
def gapE (L:Lac):Int:=if chkL L=0 then (if gapO L=none then 6 else 0) else chkL L
set_option maxHeartbeats 1000000 in
theorem run_Gap {base:Nat} {h:Heap} {v:AVal} {L:Lac} (hb:base≤h.length) (hL:LacAt h v L) :
  Ret prog raw base (.fn 11 [] []) [v] h (fun w H=>Ext h H∧∃ x l,w=.tuple [x,.int .i64 (gapE L)]∧Own encI 3 h.length H x l∧(gapE L ≠ 0→l=[])∧(gapE L=0→chkL L=0∧gapO L=some l)):=by
 have hL0:=hL
 obtain ⟨cv,rv,rfl,hC,hR⟩:=hL
 have o1:=hC.one
 have o2:=hR.one
 obtain ⟨G0,eG0⟩:∃ G0,G0=h++[lacB L.T cv rv]:=⟨_,rfl⟩
 have x0:Ext h G0:=by rw [eG0];exact .app .refl
 have g0:G0[h.length]?=some (lacB L.T cv rv):=by rw [eG0];exact get_eq rfl
 have l0:G0.length=h.length+1:=by rw [eG0];simp
 obtain ⟨w1,H1,e1,x1,r1,r2⟩:=run_opened (base:=base) (h:=G0) (by omega) (hL0.ext x0)
 have l1:=x1.len
 have xh:=x0.trans x1
 unfold lacB at eG0 g0
 refine ret_raw func11 rfl (by kernel_rfl) ?_
 by_cases c0:chkL L=0
 ·obtain ⟨id,rfl,hid,hD⟩:=r2 c0
  have kn:=(chkL_iff.1 c0).n
  obtain ⟨H2,eH2⟩:∃ H2,H2=H1++[pB id]:=⟨_,rfl⟩
  have x2:Ext H1 H2:=by rw [eH2];exact .app .refl
  have g2:H2[H1.length]?=some (pB id):=by rw [eH2];exact get_eq rfl
  have l2:H2.length=H1.length+1:=by rw [eH2];simp
  obtain ⟨w3,H3,e3,x3,x,rfl,hres⟩:=run_first (base:=base) (id:=id) (h:=H2) (g:=.fn 46 [] [.ptr (some ⟨H1.length,0,0⟩)]) (L:=L) (p:=gapP L) (by omega) ⟨rfl,rfl,rfl⟩ (hD.ext x2) kn.2
   (fun O H sv l hO y1 y2 hOw hin hll=>run_gap1 (y1.get g2) (hD.ext (x2.trans y1)) kn.2 (own_ints hOw ⟨by omega,fun z hz=>by have:=hin z hz;omega⟩) hin)
  have x3h:=xh.trans (x2.trans x3)
  obtain ⟨res,eres⟩:∃ res,res=visF (gapP L) (allS L.C.length) none:=⟨_,rfl⟩
  rw [← eres] at e3 hres
  have hgo:gapO L=if res.1=true then res.2 else none:=by unfold gapO;rw [← eres]
  have ox:One x:=by
   cases q:res.2 with
   | none=>rw [q] at hres;rw [show x=_ from hres];exact ⟨rfl,rfl,rfl⟩
   | some l=>rw [q] at hres;exact Own.one hres
  unfold pB at eH2 g2
  cases c1:res.1 with
  | true =>
   rw [c1] at e3
   obtain ⟨l,hl,_,_⟩:=visF_some (p:=gapP L) (xs:=allS L.C.length) (o:=none) (by rw [← eres];exact c1)
   rw [← eres] at hl
   rw [hl] at hres
   have hg:gapO L=some l:=by rw [hgo,if_pos c1,hl]
   have r:gapE L=0:=by unfold gapE;rw [if_pos c0,if_neg (by rw [hg];simp)]
   rw [r]
   have hsp:=@Nat.succ_ne_zero;repeat' (first|simp (disch:=first|exact dq|fail) only [go_sem,↓reduceIte,hsp,← eG0,g0,e1,eq_self,← eH2,g2,e3]|refine WP_drw ?_|refine cnd_intro (fun hsp=>?_) fun hsp=>?_)
   exact ⟨x3h,x,l,rfl,Own.low hres (by omega),fun q=>q.elim,fun _=>⟨c0,hg⟩⟩
  | false =>
   rw [c1] at e3
   have hg:gapO L=none:=by rw [hgo,if_neg (by rw [c1];simp)]
   have r:gapE L=6:=by unfold gapE;rw [if_pos c0,if_pos hg]
   rw [r]
   have hsp:=@Nat.succ_ne_zero;repeat' (first|simp (disch:=first|exact dq|fail) only [go_sem,↓reduceIte,hsp,← eG0,g0,e1,eq_self,← eH2,g2,e3]|refine WP_drw ?_|refine cnd_intro (fun hsp=>?_) fun hsp=>?_)
   exact ⟨x3h,_,[],rfl,Own.nil,fun _=>rfl,fun q=>by simp at q⟩
 ·have t0:(chkL L=0)=False:=eq_false c0
  have q:=r1 c0
  subst q
  have r:gapE L=chkL L:=by unfold gapE;rw [if_neg c0]
  rw [r]
  have hsp:=@Nat.succ_ne_zero;repeat' (first|simp (disch:=first|exact dq|fail) only [go_sem,↓reduceIte,hsp,← eG0,g0,e1,t0]|refine WP_drw ?_|refine cnd_intro (fun hsp=>?_) fun hsp=>?_)
  exact ⟨xh.trans (.app .refl),_,[],rfl,Own.nil,fun _=>rfl,fun q=>q.elim⟩
end Go.AM
namespace Go.AM
open Go.Proofs.Tryz
attribute [-go_sem] put_ne put_same
attribute [local go_sem ↓] put_if
theorem eqI2 {d:Nat} {a b:Int}:eqT prog (d+1) 3 (.int .i64 a) (.int .i64 b)=some (decide (a=b)):=by
 have hu:prog.underlying 3=some (.int .i64):=by kernel_rfl
 simp only [eqT,hu,if_true]
 by_cases h:a=b<;>simp [h]
theorem eqA7 {a b:List Int} (ha:a.length=7) (hb:b.length=7):eqT prog eqDepth 138 (.agg (ints a)) (.agg (ints b))=some (decide (a=b)):=by
 have hu:prog.underlying 138=some (.array 7 3):=by kernel_rfl
 have ht:tyA prog 3=some (false,1):=by kernel_rfl
 match a,b,ha,hb with
 | [a0,a1,a2,a3,a4,a5,a6],[b0,b1,b2,b3,b4,b5,b6],_,_ =>
  simp only [eqDepth,eqT,hu,ht,show List.range 7=[0,1,2,3,4,5,6] from rfl,List.foldr,partQ,ints,List.map,Nat.mul_one,List.getElem?_cons_zero,List.getElem?_cons_succ,eqI2,if_false,Bool.false_eq_true]
  by_cases h0:a0=b0
  ·by_cases h1:a1=b1
   ·by_cases h2:a2=b2
    ·by_cases h3:a3=b3
     ·by_cases h4:a4=b4
      ·by_cases h5:a5=b5
       ·by_cases h6:a6=b6
        ·simp [h0,h1,h2,h3,h4,h5,h6]
        ·simp [h0,h1,h2,h3,h4,h5,h6]
       ·simp [h0,h1,h2,h3,h4,h5]
      ·simp [h0,h1,h2,h3,h4]
     ·simp [h0,h1,h2,h3]
    ·simp [h0,h1,h2]
   ·simp [h0,h1]
  ·simp [h0]
theorem keyA7 {a:List Int} (ha:a.length=7):keyOk prog eqDepth 138 (.agg (ints a))=true:=by
 match a,ha with
 | [a0,a1,a2,a3,a4,a5,a6],_ =>
  show keyOk prog eqDepth 138 (.agg (ints [a0,a1,a2,a3,a4,a5,a6]))=true
  kernel_rfl
def mpK (ks:List (List Int)):List (AVal × AVal):=ks.map fun k=>(.agg (ints k),.bool true)
theorem find_A7 {k:List Int} (hk:k.length=7):∀ {ks:List (List Int)},(∀ x ∈ ks,x.length=7)→findA prog 138 (.agg (ints k)) (mpK ks)=some (if k ∈ ks then some (ks.idxOf k) else none)
 | [],_=>rfl
 | x :: ks,h=>by
  have ih:=find_A7 hk (ks:=ks) fun y hy=>h y (by simp [hy])
  rw [show mpK (x :: ks)=(.agg (ints x),.bool true) :: mpK ks from rfl,findA,eqA7 hk (h x (by simp)),ih]
  by_cases e:k=x
  ·subst e;simp
  ·have e2:¬ x=k:=fun q=>e q.symm
   have e3:(x == k)=false:=by simp [e2]
   rw [decide_eq_false e]
   simp only [List.mem_cons,e,false_or,List.idxOf_cons,e3]
   by_cases m:k ∈ ks<;>simp [m]
theorem look_K {H:Heap} {m:Nat} {k:List Int} {ks:List (List Int)} (hm:H[m]?=some ⟨.map (mpK ks),0⟩) (hk:k.length=7) (h:∀ x ∈ ks,x.length=7):lookupA prog H 137 (.map (some m)) (.agg (ints k)) false=some (.bool (decide (k ∈ ks))):=by
 have zb:zvA prog 4=some (.bool false):=by kernel_rfl
 simp only [lookupA,Fc.mp137,entriesA,hm,keyA7 hk,if_true,find_A7 hk h]
 by_cases e:k ∈ ks
 ·rw [if_pos e,decide_eq_true e]
  have hi:ks.idxOf k<ks.length:=List.idxOf_lt_length_iff.2 e
  simp only [mpK,List.getElem?_map,List.getElem?_eq_getElem hi,Option.map_some]
  rfl
 ·rw [if_neg e,decide_eq_false e]
  simp only [zb]
  rfl
theorem upd_K {base:Nat} {H:Heap} {m:Nat} {k:List Int} {ks:List (List Int)} (hb:base≤m) (hm:H[m]?=some ⟨.map (mpK ks),0⟩) (hk:k.length=7) (h:∀ x ∈ ks,x.length=7) (hn:k ∉ ks):mapUpdateA prog base H 137 (.map (some m)) (.agg (ints k)) (.bool true)=some (H.set m ⟨.map (mpK (ks++[k])),0⟩):=by
 simp only [mapUpdateA,Fc.mp137,hm,keyA7 hk,find_A7 hk h]
 rw [if_pos ⟨trivial,.inl hb⟩,if_neg hn]
 simp only [mpK,List.map_append,List.map_cons,List.map_nil]
theorem upd_K2 {base:Nat} {H:Heap} {m:Nat} {k:List Int} {ks:List (List Int)} (hb:base≤m) (hm:H[m]?=some ⟨.map (mpK ks),0⟩) (hk:k.length=7) (h:∀ x ∈ ks,x.length=7) (hn:k ∈ ks):∃ es,mapUpdateA prog base H 137 (.map (some m)) (.agg (ints k)) (.bool true)=some (H.set m ⟨.map es,0⟩):=by
 simp only [mapUpdateA,Fc.mp137,hm,keyA7 hk,find_A7 hk h]
 rw [if_pos ⟨trivial,.inl hb⟩,if_pos hn]
 have hi:ks.idxOf k<ks.length:=List.idxOf_lt_length_iff.2 hn
 have e1:((mpK ks)[ks.idxOf k]?).map (·.1)=some (.agg (ints k)):=by
  simp only [mpK,List.getElem?_map,List.getElem?_eq_getElem hi,Option.map_some]
  rw [List.getElem_idxOf hi]
 simp only [e1,if_true]
 exact ⟨_,rfl⟩
end Go.AM
namespace Go.AM
open Go.Proofs.Tryz
attribute [-go_sem] put_ne put_same
attribute [local go_sem ↓] put_if
theorem ev_str {fr:AFrame} {s:ByteArray}:ev fr (.const (.string s))=.str s:=rfl
def lenT (n:Nat):Nat:=[0,1,2,2,3,3,3,3,4,4,4,4,4].getD n 0
def Srt (m:List Int) (i j:Nat):Prop:=∀ a b,a<b→b≤i→b ≠ j→m.getD a 0≤m.getD b 0
def swp (m:List Int) (j:Nat):List Int:=(m.set (j+1) (m.getD j 0)).set j (m.getD (j+1) 0)
theorem getD_setI {l:List Int} {i j:Nat} {b:Int} (hi:i<l.length):(l.set i b).getD j 0=if i=j then b else l.getD j 0:=by
 rw [List.getD_eq_getElem?_getD,List.getElem?_set,List.getD_eq_getElem?_getD]
 by_cases e:i=j
 ·subst e;simp [hi]
 ·simp [e]
abbrev srB (m:List Int) (e:TypeId) (ver:Nat):ABlk:=⟨.cells (ints m) e true false,ver⟩
def srtL (l:List Int):List Int:=l.mergeSort fun a b=>decide (a≤b)
end Go.AM
namespace Go.AM
open Go.Proofs.Tryz
attribute [-go_sem] put_ne put_same
attribute [local go_sem ↓] put_if
theorem rep_zero:∀ n,repCells [AVal.int .i64 0] n=ints (List.replicate n 0)
 | 0=>rfl
 | n+1=>by rw [repCells,rep_zero n];rfl
end Go.AM
namespace Go.AM
open Go.Proofs.Tryz
attribute [-go_sem] put_ne put_same
attribute [local go_sem ↓] put_if
theorem bstI_le {o out:List Int} {p:Nat} {B:Int} (hB:0≤B) (h:∀ q,out.getD q 0≤B):∀ {j},bstI o out p j≤B
 | 0=>by simpa [bstI] using hB
 | j+1=>by
  have:=bstI_le (o:=o) (p:=p) hB h (j:=j)
  have h2:=h (p+1+j)
  rw [bstI];split<;>omega
theorem getD_set' {l:List Int} {i j:Nat} {b:Int} (hi:i<l.length):(l.set i b).getD j 0=if i=j then b else l.getD j 0:=getD_setI hi
theorem rsN_bd {o:List Int}:∀ {k},k≤o.length→∀ q,0≤(rsN o k).getD q 0∧(rsN o k).getD q 0≤(k:Int)
 | 0,_,q=>by
  have:(rsN o 0).getD q 0=0:=by
   rw [rsN]
   by_cases h:q<o.length
   ·rw [List.getD_eq_getElem?_getD,List.getElem?_replicate,if_pos h];rfl
   ·rw [List.getD_eq_getElem?_getD,List.getElem?_replicate,if_neg h];rfl
  omega
 | k+1,hk,q=>by
  have ih:=rsN_bd (o:=o) (k:=k) (by omega)
  rw [rsN,getD_set' (by rw [rsN_len];omega)]
  split
  ·have h1:=bstI_le (o:=o) (out:=rsN o k) (p:=o.length-1-k) (B:=(k:Int)) (by omega) (fun q=>(ih q).2) (j:=k)
   have h2:=bstI_nn (o:=o) (out:=rsN o k) (p:=o.length-1-k) (j:=k)
   omega
  ·have:=ih q
   omega
theorem rsN_zero {o:List Int}:∀ {k p},k≤o.length→p<o.length-k→(rsN o k).getD p 0=0
 | 0,p,_,hp=>by rw [rsN,List.getD_eq_getElem?_getD,List.getElem?_replicate,if_pos (by omega)];rfl
 | k+1,p,hk,hp=>by
  rw [rsN,getD_set' (by rw [rsN_len];omega),if_neg (by omega)]
  exact rsN_zero (by omega) (by omega)
theorem set_same {l:List Int} {i:Nat} (hi:i<l.length):l.set i (l.getD i 0)=l:=by
 rw [getD_at hi];exact List.set_getElem_self hi
theorem bs2 {lit:Bool} {H:Heap} {a b:Int} (hl:lit=false):bsA prog lit H 22 2 [(0,.int .i64 a),(1,.int .i64 b)]=some (.slice (some ⟨H.length,0,0⟩) 2 2,H++[rowB [a,b] 0]):=by
 subst hl;simp [bsA,rowOf,Fc.el22,fillA,repCells,AVal.isN,AVal.cells,splice,rowB,ints]
set_option maxHeartbeats 2000000 in
theorem run_rises {base:Nat} {h:Heap} {v:AVal} {o:List Int} (hb:base≤h.length) (hI:Ints h v o) (h0:0<o.length) (hl:o.length≤1000) :
  Ret prog raw base (.fn 81 [] []) [v] h (fun w H=>Ext h H∧Own encI 3 h.length H w (rsA o)):=by
 have hv1:=hI.one
 have hlen:=lenI hI
 obtain ⟨n,en⟩:∃ n,n=o.length:=⟨_,rfl⟩
 have mk:makeSliceA prog h 22 (.int .i64 (o.length:Int)) (.int .i64 (o.length:Int))=some (.slice (some ⟨h.length,0,0⟩) o.length o.length,h++[srB (List.replicate o.length 0) 3 0]):=by
  rw [make_full Fc.el22 h0 (by omega),rep_zero]
 have hno:=lenI (hI.ext (.app (t:=[srB (List.replicate o.length 0) 3 0]) .refl))
 refine ret_raw func81 rfl (by kernel_rfl) ?_
 have hsp:=@Nat.succ_ne_zero;repeat' (first|simp (disch:=first|exact dq|fail) only [go_sem,↓reduceIte,hsp,hlen,mk,hno]|refine WP_drw ?_|refine cnd_intro (fun hsp=>?_) fun hsp=>?_)
 refine WP_count [(4,51)] 0 o.length (Nat.zero_le _) (fun _ i fr H=>fr 4=.int .i64 ((o.length:Int)-1-(i:Int))∧Ext h H∧H[h.length]?=some (srB (rsN o i) 3 0)) ?_ ?_ ?_
 ·refine ⟨by rw [show (o.length:Int)-1-((0:Nat):Int)=(o.length:Int)-1 by omega];(simp (disch:=first|exact dq|fail) only [go_sem,↓reduceIte,Int.natCast_zero];first|done|rfl),.app .refl,get_eq rfl⟩
 ·rintro i fr H hi0 hi hA ⟨r4,xH,gH⟩
  have p0:=hA 0 rfl
  have p2:=hA 2 rfl
  have p3:=hA 3 rfl
  try simp (disch:=first|exact dq|fail) only [go_sem,↓reduceIte] at p0 p2 p3
  obtain ⟨p,ep⟩:∃ p,p=o.length-1-i:=⟨_,rfl⟩
  rw [show (o.length:Int)-1-(i:Int)=(p:Int) by omega] at r4
  have hge:((p:Int) ≥ 0)=True:=eq_true (by omega)
  have hsp:=@Nat.succ_ne_zero;repeat' (first|simp (disch:=first|exact dq|fail) only [go_sem,↓reduceIte,hsp,r4,p0,p2,p3,hge]|refine WP_drw ?_|refine cnd_intro (fun hsp=>?_) fun hsp=>?_)
  refine WP_count [(5,45)] 0 i (Nat.zero_le _) (fun _ j fr K=>fr 5=.int .i64 ((p+1+j:Nat):Int)∧Ext h K∧K[h.length]?=some (srB ((rsN o i).set p (bstI o (rsN o i) p j)) 3 0)) ?_ ?_ ?_
  ·refine ⟨by (simp (disch:=first|exact dq|fail) only [go_sem,↓reduceIte,Int.natCast_zero];first|done|rfl),xH,?_⟩
   have:=set_same (l:=rsN o i) (i:=p) (by rw [rsN_len];omega)
   rw [rsN_zero (by omega) (by omega)] at this
   rw [bstI,this];exact gH
  ·rintro j fr2 K hj0 hj hA2 ⟨r5,xK,gK⟩
   have d0:=hA2 0 rfl
   have d2:=hA2 2 rfl
   have d3:=hA2 3 rfl
   have d4:=hA2 4 rfl
   try simp (disch:=first|exact dq|fail) only [go_sem,↓reduceIte,p0,p2,p3] at d0 d2 d3 d4
   have d4:=hA2 4 rfl
   simp (disch:=first|exact dq|fail) only [go_sem,↓reduceIte,r4] at d4
   obtain ⟨q,eq⟩:∃ q,q=p+1+j:=⟨_,rfl⟩
   rw [← eq] at r5
   have hqn:q<o.length:=by omega
   have hIK:=hI.ext xK
   have hlK:=lenI hIK
   have hKl:=xK.len
   have hgK:=lt_of_get gK
   have hlt:((q:Int)<(o.length:Int))=True:=eq_true (by omega)
   have lq:=loadI hIK hqn
   have aq:=adrI (i:=(q:Int)) (by omega) hIK (by omega)
   have lp:=loadI hIK (show p<o.length by omega)
   have ap:=adrI (i:=(p:Int)) (by omega) hIK (by omega)
   rw [Int.toNat_natCast] at aq ap
   obtain ⟨b,eb⟩:∃ b,b=bstI o (rsN o i) p j:=⟨_,rfl⟩
   rw [← eb] at gK
   obtain ⟨m,em⟩:∃ m,m=(rsN o i).set p b:=⟨_,rfl⟩
   rw [← em] at gK
   have hml:m.length=o.length:=by rw [em,List.length_set,rsN_len]
   have mp:m.getD p 0=b:=by rw [em,getD_set' (by rw [rsN_len];omega),if_pos rfl]
   obtain ⟨x,ex⟩:∃ x,x=(rsN o i).getD q 0:=⟨_,rfl⟩
   have mq:m.getD q 0=x:=by rw [em,getD_set' (by rw [rsN_len];omega),if_neg (by omega),ex]
   have hbb:0≤b∧b≤1000:=by
    have h1:=bstI_le (o:=o) (out:=rsN o i) (p:=p) (B:=(i:Int)) (by omega) (fun q=>(rsN_bd (by omega) q).2) (j:=j)
    have h2:=bstI_nn (o:=o) (out:=rsN o i) (p:=p) (j:=j)
    omega
   have hxb:=rsN_bd (o:=o) (k:=i) (by omega) q
   have nxt:bstI o (rsN o i) p (j+1)=if o.getD q 0 > o.getD p 0 then max b x else b:=by rw [bstI,← eq,← eb,← ex]
   have hii:((q:Int)+1)=((p+1+(j+1):Nat):Int):=by omega
   have adr:∀ y:Nat,y<o.length→indexAddrA prog 22 (.slice (some ⟨h.length,0,0⟩) o.length o.length) (.int .i64 (y:Int))=some (.ptr (some ⟨h.length,0,y⟩)):=fun y hy=>by
    rw [adr_sl Fc.el22 Fc.ar22 (by omega) (by omega),Int.toNat_natCast,Nat.mul_one,Nat.zero_add]
   by_cases c:o.getD q 0 > o.getD p 0
   ·have t1:(o.getD q 0 > o.getD p 0)=True:=eq_true c
    rw [if_pos c] at nxt
    have a1:=adr p (by omega)
    have a2:=adr q hqn
    have d1:loadP prog K 3 (.ptr (some ⟨h.length,0,p⟩))=some (.int .i64 b):=by
     rw [load_eq,Fc.ty3,gK,← mp];exact ldB_ints (by omega)
    have d2:loadP prog K 3 (.ptr (some ⟨h.length,0,q⟩))=some (.int .i64 x):=by
     rw [load_eq,Fc.ty3,gK,← mq];exact ldB_ints (by omega)
    obtain ⟨G,eG⟩:∃ G,G=K++[rowB [b,x] 0]:=⟨_,rfl⟩
    have xG:Ext K G:=by rw [eG];exact .app .refl
    have gG:=xG.get gK
    have hG:=xG.len
    have hgr:=fun base=>run_greatest (base:=base) (h:=G) (v:=.slice (some ⟨K.length,0,0⟩) 2 2) (l:=[b,x]) (by rw [eG];exact slice_row rfl rfl ⟨by simp,fun y hy=>by simp at hy;omega⟩)
    rw [show grt [b,x]=max b x by unfold grt;simp only [List.foldl_cons,List.foldl_nil];omega] at hgr
    have st1:∀ {F:ABlk→Heap},stQ base h.length (some (srB m 3 0)) 0 p [.int .i64 (max b x)] F=some (F (srB (m.set p (max b x)) 3 0)):=fun {F}=>stQ_ints (by omega)
    have hsp:=@Nat.succ_ne_zero;repeat' (first|simp (disch:=first|exact dq|fail) only [go_sem,↓reduceIte,hsp,r5,d4,d0,d2,d3,d4,p0,p2,p3,hlt,hlK,lq,aq,lp,ap,t1,a1,a2,d1,d2,bs2,← eG,hgr,gG,st1]|refine WP_drw ?_|refine cnd_intro (fun hsp=>?_) fun hsp=>?_)
    refine ⟨agq,by omega,(xK.trans xG).set (Nat.le_refl _),?_⟩
    rw [nxt,em,List.set_set]
   ·have t1:(o.getD q 0 > o.getD p 0)=False:=eq_false c
    rw [if_neg c] at nxt
    have hsp:=@Nat.succ_ne_zero;repeat' (first|simp (disch:=first|exact dq|fail) only [go_sem,↓reduceIte,hsp,r5,d4,d0,d2,d3,d4,p0,p2,p3,hlt,hlK,lq,aq,lp,ap,t1]|refine WP_drw ?_|refine cnd_intro (fun hsp=>?_) fun hsp=>?_)
    refine ⟨agq,by omega,xK,?_⟩
    rw [nxt,← em];exact gK
  ·rintro fr2 K hA2 ⟨r5,xK,gK⟩
   have d0:=hA2 0 rfl
   have d2:=hA2 2 rfl
   have d3:=hA2 3 rfl
   have d4:=hA2 4 rfl
   try simp (disch:=first|exact dq|fail) only [go_sem,↓reduceIte,p0,p2,p3] at d0 d2 d3 d4
   have d4:=hA2 4 rfl
   simp (disch:=first|exact dq|fail) only [go_sem,↓reduceIte,r4] at d4
   have hIK:=hI.ext xK
   have hlK:=lenI hIK
   have hKl:=xK.len
   have hgK:=lt_of_get gK
   have hlt:(((p+1+i:Nat):Int)<(o.length:Int))=False:=eq_false (by omega)
   obtain ⟨b,eb⟩:∃ b,b=bstI o (rsN o i) p i:=⟨_,rfl⟩
   rw [← eb] at gK
   obtain ⟨m,em⟩:∃ m,m=(rsN o i).set p b:=⟨_,rfl⟩
   rw [← em] at gK
   have hml:m.length=o.length:=by rw [em,List.length_set,rsN_len]
   have mp:m.getD p 0=b:=by rw [em,getD_set' (by rw [rsN_len];omega),if_pos rfl]
   have hbb:0≤b∧b≤1000:=by
    have h1:=bstI_le (o:=o) (out:=rsN o i) (p:=p) (B:=(i:Int)) (by omega) (fun q=>(rsN_bd (by omega) q).2) (j:=i)
    have h2:=bstI_nn (o:=o) (out:=rsN o i) (p:=p) (j:=i)
    omega
   have a1:indexAddrA prog 22 (.slice (some ⟨h.length,0,0⟩) o.length o.length) (.int .i64 (p:Int))=some (.ptr (some ⟨h.length,0,p⟩)):=by
    rw [adr_sl Fc.el22 Fc.ar22 (by omega) (by omega),Int.toNat_natCast,Nat.mul_one,Nat.zero_add]
   have d1:loadP prog K 3 (.ptr (some ⟨h.length,0,p⟩))=some (.int .i64 b):=by
    rw [load_eq,Fc.ty3,gK,← mp];exact ldB_ints (by omega)
   have st1:∀ {F:ABlk→Heap},stQ base h.length (some (srB m 3 0)) 0 p [.int .i64 (b+1)] F=some (F (srB (m.set p (b+1)) 3 0)):=fun {F}=>stQ_ints (by omega)
   have hii:((p:Int)-1)=(o.length:Int)-1-((i+1:Nat):Int):=by omega
   have hsp:=@Nat.succ_ne_zero;repeat' (first|simp (disch:=first|exact dq|fail) only [go_sem,↓reduceIte,hsp,r5,d4,d0,d2,d3,d4,p0,p2,p3,hlt,hlK,a1,d1,gK,st1]|refine WP_drw ?_|refine cnd_intro (fun hsp=>?_) fun hsp=>?_)
   refine ⟨agq,by omega,xK.set (Nat.le_refl _),?_⟩
   rw [em,List.set_set,rsN,← ep,← eb]
 ·rintro fr H hA ⟨r4,xH,gH⟩
  have p0:=hA 0 rfl
  have p2:=hA 2 rfl
  have p3:=hA 3 rfl
  try simp (disch:=first|exact dq|fail) only [go_sem,↓reduceIte] at p0 p2 p3
  rw [show (o.length:Int)-1-(o.length:Int)=-1 by omega] at r4
  have hge:((-1:Int) ≥ 0)=False:=eq_false (by omega)
  have hsp:=@Nat.succ_ne_zero;repeat' (first|simp (disch:=first|exact dq|fail) only [go_sem,↓reduceIte,hsp,r4,p0,p2,p3,hge]|refine WP_drw ?_|refine cnd_intro (fun hsp=>?_) fun hsp=>?_)
  refine ⟨xH,.inr ⟨h.length,0,by rw [rsA,rsN_len],?_,Nat.le_refl _,by rw [rsA,rsN_len];omega⟩⟩
  rw [gH,rowE,flat_encI];rfl
end Go.AM
