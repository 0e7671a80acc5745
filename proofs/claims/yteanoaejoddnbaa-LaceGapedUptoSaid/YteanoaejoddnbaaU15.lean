/-
  Contracts: how many cards fit some positions; by how much these are a gap.
-/
import Derived.Test.YteanoaejoddnbaaU14
import Derived.Test.YteanoaejoddnbaaU11
import Derived.Test.YteanoaejoddnbaaU13
import Derived.Test.YteanoaejoddnbaaU12
set_option linter.unusedSimpArgs false
set_option linter.unusedVariables false
namespace Go.AM
open Go.Proofs.Try
attribute [-go_sem] put_ne put_same
attribute [local go_sem ↓] put_if
theorem run_fit1 {base a b id p k:Nat} {h:Heap} {L:Lac} (ga:h[a]?=some (pB id)) (gb:h[b]?=some (nB (k:Int))) (hD:DskAt h id L) (hn:L.C.length≤7) (hp:p<L.C.length) (hk:k<L.C.length) :
  callL prog raw base (.fn 163 [] [.ptr (some ⟨a,0,0⟩),.ptr (some ⟨b,0,0⟩)]) [.int .i64 (p:Int)] h=some (.bool (fitB L p k),h):=by
 obtain ⟨cv,rv,hg,-,-⟩:=hD
 have la:=lt_of_get ga
 have lb:=lt_of_get gb
 have lid:=lt_of_get hg
 have ad1:=Fc.ad150 (id:=id) (ver:=0) (o:=3) (i:=(p:Int)) (by omega) (by omega)
 have ad2:=Fc.ad148 (id:=id) (ver:=0) (o:=3+p * 7) (i:=(k:Int)) (by omega) (by omega)
 rw [Int.toNat_natCast] at ad1 ad2
 rw [Nat.mul_one] at ad2
 have lb:=ld_dsk hg hn hp hk
 unfold pB at ga
 unfold nB at gb
 refine callL_run func163 rfl rfl ?_
 have hsp:=@Nat.succ_ne_zero;repeat' (first|simp (disch:=first|exact dqb|fail) only [go_sem,↓reduceIte,hsp,ga,gb,ad1,ad2,lb]|refine WP_drw ?_|refine cnd_intro (fun hsp=>?_) fun hsp=>?_)
 exact fB rfl
set_option maxHeartbeats 1000000 in
theorem run_fitting {base id:Nat} {h:Heap} {v:AVal} {L:Lac} {l:List Int} (hD:DskAt h id L) (hn:L.C.length≤7) (hI:Ints h v l) (hl:∀ x ∈ l,0≤x∧x<(L.C.length:Int)) :
  callL prog raw base (.fn 119 [] []) [.ptr (some ⟨id,0,0⟩),v] h=some (.int .i64 (fittN L l:Int),h):=by
 have hD0:=hD
 obtain ⟨cv,rv,hg,hC,hR⟩:=hD
 have lid:=lt_of_get hg
 have ov:=hI.one
 obtain ⟨G,eG⟩:∃ G,G=h++[pB id]:=⟨_,rfl⟩
 have xG:Ext h G:=by rw [eG];exact .app .refl
 have gp:G[h.length]?=some (pB id):=by rw [eG];exact get_eq rfl
 have lG:G.length=h.length+1:=by rw [eG];simp
 have lc:=ld_cards (xG.get hg)
 have hlc:=lenI (hC.ext xG)
 have gp':=gp
 unfold pB at eG gp'
 obtain ⟨f,ef⟩:∃ f:Int→Bool,f=fun k=>l.any fun p=>fitB L p.toNat k.toNat:=⟨_,rfl⟩
 refine callL_run func119 rfl rfl ?_
 have hsp:=@Nat.succ_ne_zero;repeat' (first|simp (disch:=first|exact dqb|fail) only [go_sem,↓reduceIte,hsp,← eG,gp',lc,hlc]|refine WP_drw ?_|refine cnd_intro (fun hsp=>?_) fun hsp=>?_)
 refine WP_count [(5,6),(13,21)] 0 L.C.length (Nat.zero_le _) (fun _ k fr H=>fr 13=.int .i64 (k:Int)∧Ext G H∧fr 5=.int .i64 ((((upto k).filter f).length:Nat):Int)) ?_ ?_ ?_
 ·exact ⟨by (simp (disch:=first|exact dqb|fail) only [go_sem,↓reduceIte,Int.natCast_zero];first|done|rfl),.refl,by simp (disch:=first|exact dqb|fail) only [go_sem,↓reduceIte];rfl⟩
 ·rintro k fr H hk0 hk hA ⟨r13,xH,r5⟩
  have q1:=hA 1 rfl
  have q2:=hA 2 rfl
  have q4:=hA 4 rfl
  have q12:=hA 12 rfl
  try simp (disch:=first|exact dqb|fail) only [go_sem,↓reduceIte] at q1 q2 q4 q12
  have hlt:((k:Int)<(L.C.length:Int))=True:=eq_true (by omega)
  have lH:=xH.len
  have hfl:((upto k).filter f).length≤k:=Nat.le_trans (List.length_filter_le _ _) (by rw [upto_len];omega)
  obtain ⟨K,eK⟩:∃ K,K=H++[nB (k:Int)]:=⟨_,rfl⟩
  have xK:Ext H K:=by rw [eK];exact .app .refl
  have gK:K[H.length]?=some (nB (k:Int)):=by rw [eK];exact get_eq rfl
  have xGK:=xH.trans xK
  have lK:=xGK.len
  have hany:=any_I (base:=h.length) (h:=K) (v:=v) (g:=.fn 163 [] [.ptr (some ⟨h.length,0,0⟩),.ptr (some ⟨H.length,0,0⟩)]) (l:=l) (fun p=>fitB L p.toNat k) (by omega) ⟨rfl,rfl,rfl⟩ (hI.ext (xG.trans xGK)) (fun x hx=>by
   have hx2:=hl x hx
   obtain ⟨p,rfl⟩:=Int.eq_ofNat_of_zero_le hx2.1
   exact run_fit1 (xGK.get gp) gK (hD0.ext (xG.trans xGK)) hn (by omega) hk)
  have hfk:l.any (fun p=>fitB L p.toNat k)=f (k:Int):=by rw [ef];simp only [Int.toNat_natCast]
  rw [hfk] at hany
  have hup:=upto_filt (f:=f) (k:=k)
  unfold nB at eK gK
  cases c:f (k:Int) with
  | true =>
   rw [c] at hany hup
   rw [if_pos rfl] at hup
   have hlen:(((upto k).filter f).length:Int)+1=((((upto (k+1)).filter f).length:Nat):Int):=by rw [hup];simp
   have hsp:=@Nat.succ_ne_zero;repeat' (first|simp (disch:=first|exact dqb|fail) only [go_sem,↓reduceIte,hsp,r13,r5,q1,q2,q4,q12,hlt,← eK,hany]|refine WP_drw ?_|refine cnd_intro (fun hsp=>?_) fun hsp=>?_)
   exact ⟨agq,by omega,xGK,hlen⟩
  | false =>
   rw [c] at hany hup
   rw [if_neg (by simp),List.append_nil] at hup
   have hsp:=@Nat.succ_ne_zero;repeat' (first|simp (disch:=first|exact dqb|fail) only [go_sem,↓reduceIte,hsp,r13,r5,q1,q2,q4,q12,hlt,← eK,hany]|refine WP_drw ?_|refine cnd_intro (fun hsp=>?_) fun hsp=>?_)
   exact ⟨agq,by omega,xGK,by rw [hup]⟩
 ·rintro fr H hA ⟨r13,xH,r5⟩
  have q1:=hA 1 rfl
  have q2:=hA 2 rfl
  have q4:=hA 4 rfl
  have q12:=hA 12 rfl
  try simp (disch:=first|exact dqb|fail) only [go_sem,↓reduceIte] at q1 q2 q4 q12
  have hlt:((L.C.length:Int)<(L.C.length:Int))=False:=eq_false (by omega)
  have hsp:=@Nat.succ_ne_zero;repeat' (first|simp (disch:=first|exact dqb|fail) only [go_sem,↓reduceIte,hsp,r13,r5,q1,q2,q4,q12,hlt]|refine WP_drw ?_|refine cnd_intro (fun hsp=>?_) fun hsp=>?_)
  refine fI ?_ (xG.trans xH)
  rw [ef];rfl
theorem run_pos {base:Nat} {h:Heap} {T x:Int} {cv rv:AVal} {l:List Int} (hC:Ints h cv l) (o2:One rv):callL prog raw base (.fn 113 [.agg [.int .i64 T,cv,rv]] []) [.int .i64 x] h=some (.bool (decide (0≤x∧x≤(l.length:Int)-1)),h):=by
 have o1:=hC.one
 have hb:=hC.1.1
 obtain ⟨G,eG⟩:∃ G,G=h++[lacB T cv rv]:=⟨_,rfl⟩
 have xG:Ext h G:=by rw [eG];exact .app .refl
 have g0:G[h.length]?=some (lacB T cv rv):=by rw [eG];exact get_eq rfl
 have hl:=lenI (hC.ext xG)
 unfold lacB at eG g0
 refine callL_run func113 rfl rfl ?_
 have hsp:=@Nat.succ_ne_zero;repeat' (first|simp (disch:=first|exact dqb|fail) only [go_sem,↓reduceIte,hsp,← eG,g0,hl]|refine WP_drw ?_|refine cnd_intro (fun hsp=>?_) fun hsp=>?_)
 exact fB rfl xG
def gpsE (L:Lac) (gap:List Int):Int × Int :=
 if chkL L ≠ 0 then (0,chkL L) else if ¬ (gap.all fun x=>decide (0≤x∧x≤(L.C.length:Int)-1))=true then (0,1) else if gap=[] ∨ sortB gap=false ∨ twB gap=true then (0,4) else
 if (gap.length:Int)-fittN L gap<1 then (0,6) else ((gap.length:Int)-fittN L gap,0)
set_option maxHeartbeats 2000000 in
theorem run_Gapes {base:Nat} {h:Heap} {v gv:AVal} {L:Lac} {gap:List Int} (hL:LacAt h v L) (hG:Ints h gv gap) :
  callL prog raw base (.fn 54 [] []) [v,gv] h=some (.tuple [.int .i64 (gpsE L gap).1,.int .i64 (gpsE L gap).2],h):=by
 have hL0:=hL
 obtain ⟨cv,rv,rfl,hC,hR⟩:=hL
 have o1:=hC.one
 have o2:=hR.one
 have o3:=hG.one
 have hgb:=hG.1.1
 obtain ⟨G0,eG0⟩:∃ G0,G0=h++[lacB L.T cv rv]:=⟨_,rfl⟩
 have x0:Ext h G0:=by rw [eG0];exact .app .refl
 have g0:G0[h.length]?=some (lacB L.T cv rv):=by rw [eG0];exact get_eq rfl
 have l0:G0.length=h.length+1:=by rw [eG0];simp
 obtain ⟨w1,H1,e1,x1,r1,r2⟩:=run_opened (base:=h.length) (h:=G0) (by omega) (hL0.ext x0)
 have l1:=x1.len
 have g1:=x1.get g0
 unfold lacB at eG0 g0 g1
 refine callL_run func54 rfl rfl ?_
 by_cases c0:chkL L=0
 ·obtain ⟨id,rfl,hid,hD⟩:=r2 c0
  have kn:=(chkL_iff.1 c0).n
  have xh:=x0.trans x1
  obtain ⟨H2,eH2⟩:∃ H2,H2=H1++[evB (.fn 113 [.agg [.int .i64 L.T,cv,rv]] [])]:=⟨_,rfl⟩
  have x2:Ext H1 H2:=by rw [eH2];exact .app .refl
  have xh2:=xh.trans x2
  have hev:=every_I (base:=h.length) (h:=H1) (v:=gv) (g:=.fn 113 [.agg [.int .i64 L.T,cv,rv]] []) (l:=gap) (fun x=>decide (0≤x∧x≤(L.C.length:Int)-1)) (by omega) ⟨rfl,rfl,rfl⟩ (hG.ext xh) (fun x _=>run_pos (hC.ext (xh.trans (.app .refl))) o2)
  rw [← eH2] at hev
  have hGl:=lenI (hG.ext xh2)
  have hst:=fun base=>run_sorted (base:=base) (hG.ext xh2)
  have htw:=fun base=>run_twice (base:=base) (hG.ext xh2)
  cases c1:gap.all (fun x=>decide (0≤x∧x≤(L.C.length:Int)-1)) with
  | false =>
   rw [c1] at hev
   have hsp:=@Nat.succ_ne_zero;repeat' (first|simp (disch:=first|exact dqb|fail) only [go_sem,↓reduceIte,hsp,← eG0,g0,e1,eq_self,g1,hev]|refine WP_drw ?_|refine cnd_intro (fun hsp=>?_) fun hsp=>?_)
   have r:gpsE L gap=(0,1):=by unfold gpsE;rw [if_neg (by simp [c0]),if_pos (by rw [c1];simp)]
   rw [r]
   exact fII rfl rfl xh2
  | true =>
   rw [c1] at hev
   have hin:∀ x ∈ gap,0≤x∧x<(L.C.length:Int):=fun x hx=>by have:=of_decide_eq_true (List.all_eq_true.1 c1 x hx);omega
   have hft:=fun base=>run_fitting (base:=base) (hD.ext x2) kn.2 (hG.ext xh2) hin
   have hfn:fittN L gap≤7:=Nat.le_trans (List.length_filter_le _ _) (by rw [upto_len];exact kn.2)
   have u1:¬ (¬ (gap.all fun x=>decide (0≤x∧x≤(L.C.length:Int)-1))=true):=by rw [c1];simp
   by_cases c2:gap=[]
   ·have t2:((gap.length:Int)=0)=True:=eq_true (by rw [c2];rfl)
    have hsp:=@Nat.succ_ne_zero;repeat' (first|simp (disch:=first|exact dqb|fail) only [go_sem,↓reduceIte,hsp,← eG0,g0,e1,eq_self,g1,hev,hGl,t2]|refine WP_drw ?_|refine cnd_intro (fun hsp=>?_) fun hsp=>?_)
    have r:gpsE L gap=(0,4):=by unfold gpsE;rw [if_neg (by simp [c0]),if_neg u1,if_pos (.inl c2)]
    rw [r]
    exact fII rfl rfl xh2
   ·have hgp:0<gap.length:=by cases q:gap with|nil=>exact absurd q c2|cons a b=>simp
    have t2:((gap.length:Int)=0)=False:=eq_false (by omega)
    cases c3:sortB gap with
    | false =>
     rw [c3] at hst
     have hsp:=@Nat.succ_ne_zero;repeat' (first|simp (disch:=first|exact dqb|fail) only [go_sem,↓reduceIte,hsp,← eG0,g0,e1,eq_self,g1,hev,hGl,t2,hst]|refine WP_drw ?_|refine cnd_intro (fun hsp=>?_) fun hsp=>?_)
     have r:gpsE L gap=(0,4):=by unfold gpsE;rw [if_neg (by simp [c0]),if_neg u1,if_pos (.inr (.inl c3))]
     rw [r]
     exact fII rfl rfl xh2
    | true =>
     rw [c3] at hst
     cases c4:twB gap with
     | true =>
      rw [c4] at htw
      have hsp:=@Nat.succ_ne_zero;repeat' (first|simp (disch:=first|exact dqb|fail) only [go_sem,↓reduceIte,hsp,← eG0,g0,e1,eq_self,g1,hev,hGl,t2,hst,htw]|refine WP_drw ?_|refine cnd_intro (fun hsp=>?_) fun hsp=>?_)
      have r:gpsE L gap=(0,4):=by unfold gpsE;rw [if_neg (by simp [c0]),if_neg u1,if_pos (.inr (.inr c4))]
      rw [r]
      exact fII rfl rfl xh2
     | false =>
      rw [c4] at htw
      have u2:¬ (gap=[] ∨ sortB gap=false ∨ twB gap=true):=by rw [c3,c4];simp [c2]
      by_cases c5:(gap.length:Int)-fittN L gap<1
      ·have t5:((gap.length:Int)-(fittN L gap:Int)<1)=True:=eq_true c5
       have hsp:=@Nat.succ_ne_zero;repeat' (first|simp (disch:=first|exact dqb|fail) only [go_sem,↓reduceIte,hsp,← eG0,g0,e1,eq_self,g1,hev,hGl,t2,hst,htw,hft,t5]|refine WP_drw ?_|refine cnd_intro (fun hsp=>?_) fun hsp=>?_)
       have r:gpsE L gap=(0,6):=by unfold gpsE;rw [if_neg (by simp [c0]),if_neg u1,if_neg u2,if_pos c5]
       rw [r]
       exact fII rfl rfl xh2
      ·have t5:((gap.length:Int)-(fittN L gap:Int)<1)=False:=eq_false c5
       have hsp:=@Nat.succ_ne_zero;repeat' (first|simp (disch:=first|exact dqb|fail) only [go_sem,↓reduceIte,hsp,← eG0,g0,e1,eq_self,g1,hev,hGl,t2,hst,htw,hft,t5]|refine WP_drw ?_|refine cnd_intro (fun hsp=>?_) fun hsp=>?_)
       have r:gpsE L gap=((gap.length:Int)-fittN L gap,0):=by unfold gpsE;rw [if_neg (by simp [c0]),if_neg u1,if_neg u2,if_neg c5]
       rw [r]
       exact fII rfl rfl xh2
 ·have t0:(chkL L=0)=False:=eq_false c0
  have r:=r1 c0
  subst r
  have hsp:=@Nat.succ_ne_zero;repeat' (first|simp (disch:=first|exact dqb|fail) only [go_sem,↓reduceIte,hsp,← eG0,g0,e1,t0,g1]|refine WP_drw ?_|refine cnd_intro (fun hsp=>?_) fun hsp=>?_)
  have re:gpsE L gap=(0,chkL L):=by unfold gpsE;rw [if_pos c0]
  rw [re]
  exact fII rfl rfl (x0.trans x1)
end Go.AM
namespace Go.AM
open Go.Proofs.Try
def Off (X:List Nat) (v:AVal):Prop:=∀ r n c,v=.slice (some r) n c→r.id ∉ X
def KeepX (ob:Nat) (H H':Heap):Prop:=H.length≤H'.length∧∀ i b,i ≠ ob→H[i]?=some b→H'[i]?=some b
section
variable {ob:Nat} {H H' H2 h:Heap}
end
end Go.AM
namespace Go.AM
open Go.Proofs.Try
attribute [-go_sem] put_ne put_same
attribute [local go_sem ↓] put_if
def mrV (M O S D R:Nat):AVal:=.fn 161 [] [.ptr (some ⟨M,0,0⟩),.ptr (some ⟨O,0,0⟩),.ptr (some ⟨S,0,0⟩),.ptr (some ⟨D,0,0⟩),.ptr (some ⟨R,0,0⟩)]
abbrev mrB (f:AVal):ABlk:=⟨.cells [f] 73 false false,0⟩
structure FrsAt (h H:Heap) (M O S D R many id:Nat) (g:AVal):Prop where
 ext:Ext h H
 ne:M ≠ O∧S ≠ O∧D ≠ O∧R ≠ O
 m:H[M]?=some (nB (many:Int))
 s:H[S]?=some (fnB g)
 d:H[D]?=some (pB id)
 r:H[R]?=some (mrB (mrV M O S D R))
def OutI (O:Nat) (o:Option (List Int)) (H:Heap):Prop:=∃ v,H[O]?=some (lB v)∧match o with|none=>v=.slice none 0 0|some l=>Own encI 3 (O+1) H v l
section
variable {base M O S D R many id:Nat} {h:Heap} {g:AVal} {L:Lac} {p:List Int→Bool}
end
end Go.AM
namespace Go.AM
open Go.Proofs.Try
attribute [-go_sem] put_ne put_same
attribute [local go_sem ↓] put_if
def preS (n i:Nat):List (List Int):=(List.range i).flatMap fun m=>lexC (upto n) m [] 0
theorem preS_all {n:Nat}:preS n (n+1)=allS n:=rfl
def ResI (b:Nat) (o:Option (List Int)) (H:Heap) (x:AVal):Prop:=match o with|none=>x=.slice none 0 0|some l=>Own encI 3 b H x l
end Go.AM
namespace Go.AM
open Go.Proofs.Try
attribute [-go_sem] put_ne put_same
attribute [local go_sem ↓] put_if
def gapE (L:Lac):Int:=if chkL L=0 then (if gapO L=none then 6 else 0) else chkL L
end Go.AM
namespace Go.AM
open Go.Proofs.Try
attribute [-go_sem] put_ne put_same
attribute [local go_sem ↓] put_if
def mpK (ks:List (List Int)):List (AVal × AVal):=ks.map fun k=>(.agg (ints k),.bool true)
end Go.AM
namespace Go.AM
open Go.Proofs.Try
attribute [-go_sem] put_ne put_same
attribute [local go_sem ↓] put_if
theorem ev_str {fr:AFrame} {s:ByteArray}:ev fr (.const (.string s))=.str s:=rfl
theorem ix_str {t:TypeId} {s:ByteArray} {k:IntKind} {n:Nat} (ha:arT prog t=none) (hs:strT prog t=true):indexA prog t (.str s) (.int k (n:Int))=(s[n]?).map fun b=>.int .u8 b.toNat:=by
 unfold indexA
 rw [ha]
 simp only [hs,true_and]
 rw [if_pos (by omega),Int.toNat_natCast]
def lenT (n:Nat):Nat:=[0,1,2,2,3,3,3,3,4,4,4,4,4].getD n 0
theorem lenT_lt {n:Nat}:lenT n≤4:=by
 by_cases h:n<13
 ·have:∀ n:Fin 13,lenT n≤4:=by decide
  exact this ⟨n,h⟩
 ·unfold lenT
  rw [List.getD_eq_getElem?_getD,List.getElem?_eq_none (by simp;omega)];decide
theorem len_key {k n:Nat} {s:ByteArray} {K:AVal→Prop} (h:s[n]?=some (UInt8.ofNat k)) (hk:k≤4) (hK:K (.int .u8 (k:Int))):bindv ((s[n]?).map fun b=>AVal.int .u8 (b.toNat:Int)) K:=by
 rw [h]
 simp only [Option.map_some,bindv_some]
 have:(UInt8.ofNat k).toNat=k:=by rw [UInt8.toNat_ofNat'];exact Nat.mod_eq_of_lt (by omega)
 rw [this]
 exact hK
theorem run_len64 {base n:Nat} {h:Heap} (hn:n≤12):callL prog raw base (.fn 184 [] []) [.int .u64 (n:Int)] h=some (.int .i64 (lenT n:Int),h):=by
 have t1:((n:Int) ≥ 4294967296)=False:=eq_false (by omega)
 have t2:((n:Int) ≥ 65536)=False:=eq_false (by omega)
 have t3:((n:Int) ≥ 256)=False:=eq_false (by omega)
 have c1:convA prog 5 120 (.int .u64 (n:Int))=some (.int .u8 (n:Int)):=by
  simp only [convA,underlying120,Fc.ik5]
  have e:(n:Int) % 2 ^ 8=n:=Int.emod_eq_of_lt (by omega) (by omega)
  simp only [IntKind.wrap,IntKind.signed,IntKind.bits,Bool.false_eq_true,Bool.false_and,if_false,e]
 have c2:∀ k:Nat,k≤4→convA prog 3 5 (.int .u8 (k:Int))=some (.int .i64 (k:Int)):=fun k hk=>by
  simp only [convA,underlying5,Fc.ik3]
  rw [wrap64 (by omega) (by omega)]
 have hl:=lenT_lt (n:=n)
 have c3:=c2 (lenT n) hl
 have ix:=fun (s:ByteArray) (k:IntKind)=>ix_str (t:=9) (s:=s) (k:=k) (n:=n) Fc.ar9 (by kernel_rfl)
 refine callL_run func184 rfl rfl ?_
 have hsp:=@Nat.succ_ne_zero;repeat' (first|simp (disch:=first|exact dqb|fail) only [go_sem,↓reduceIte,hsp,t1,t2,t3,c1,ev_str,ix]|refine WP_drw ?_|refine cnd_intro (fun hsp=>?_) fun hsp=>?_)
 refine len_key (k:=lenT n) ?_ hl ?_
 ·rcases (by omega:n=0 ∨ n=1 ∨ n=2 ∨ n=3 ∨ n=4 ∨ n=5 ∨ n=6 ∨ n=7 ∨ n=8 ∨ n=9 ∨ n=10 ∨ n=11 ∨ n=12) with e|e|e|e|e|e|e|e|e|e|e|e|e<;>subst e<;>kernel_rfl
 ·have hsp:=@Nat.succ_ne_zero;repeat' (first|simp (disch:=first|exact dqb|fail) only [go_sem,↓reduceIte,hsp,c3]|refine WP_drw ?_|refine cnd_intro (fun hsp=>?_) fun hsp=>?_)
  exact fI (by omega)
theorem run_len {base n:Nat} {h:Heap} (hn:n≤12):callL prog raw base (.fn 150 [] []) [.int .u64 (n:Int)] h=some (.int .i64 (lenT n:Int),h):=by
 have e:=fun base=>run_len64 (base:=base) (h:=h) hn
 refine callL_run func150 rfl rfl ?_
 have hsp:=@Nat.succ_ne_zero;repeat' (first|simp (disch:=first|exact dqb|fail) only [go_sem,↓reduceIte,hsp,e]|refine WP_drw ?_|refine cnd_intro (fun hsp=>?_) fun hsp=>?_)
 exact fI rfl
def Srt (m:List Int) (i j:Nat):Prop:=∀ a b,a<b→b≤i→b ≠ j→m.getD a 0≤m.getD b 0
def swp (m:List Int) (j:Nat):List Int:=(m.set (j+1) (m.getD j 0)).set j (m.getD (j+1) 0)
theorem getD_setI {l:List Int} {i j:Nat} {b:Int} (hi:i<l.length):(l.set i b).getD j 0=if i=j then b else l.getD j 0:=by
 rw [List.getD_eq_getElem?_getD,List.getElem?_set,List.getD_eq_getElem?_getD]
 by_cases e:i=j
 ·subst e;simp [hi]
 ·simp [e]
abbrev srB (m:List Int) (e:TypeId) (ver:Nat):ABlk:=⟨.cells (ints m) e true false,ver⟩
def srtL (l:List Int):List Int:=l.mergeSort fun a b=>decide (a≤b)
theorem srtL_perm {l:List Int}:(srtL l).Perm l:=List.mergeSort_perm ..
theorem srtL_sorted {l:List Int}:(srtL l).Pairwise (·≤·):=by
 have:=List.pairwise_mergeSort (le:=fun a b:Int=>decide (a≤b)) (fun a b c h1 h2=>by simp only [decide_eq_true_eq] at *;omega) (fun a b=>by simp only [Bool.or_eq_true,decide_eq_true_eq];omega) l
 exact this.imp fun h=>of_decide_eq_true h
theorem srtL_len {l:List Int}:(srtL l).length=l.length:=srtL_perm.length_eq
theorem run_insertion0 {base:Nat} {h:Heap}:callL prog raw base (.fn 175 [] []) [.slice none 0 0,.int .i64 0,.int .i64 0] h=some (.tuple [],h):=by
 have hend:compact h.length (.tuple []) h=some (.tuple [],h):=compact_plain' rfl
 have hlt:((0:Int)+1<0)=False:=eq_false (by omega)
 have hlt2:((1:Int)<0)=False:=eq_false (by omega)
 refine callL_run func175 rfl rfl ?_
 have hsp:=@Nat.succ_ne_zero;repeat' (first|simp (disch:=first|exact dqb|fail) only [go_sem,↓reduceIte,hsp]|refine WP_drw ?_|refine cnd_intro (fun hsp=>?_) fun hsp=>?_)
 rw [WP_loop1]
 have hsp:=@Nat.succ_ne_zero;repeat' (first|simp (disch:=first|exact dqb|fail) only [go_sem,↓reduceIte,hsp,hlt,hlt2]|refine WP_drw ?_|refine cnd_intro (fun hsp=>?_) fun hsp=>?_)
 exact hend
theorem run_pdq0 {base k:Nat} {h:Heap}:callL prog raw base (.fn 149 [] []) [.slice none 0 0,.int .i64 0,.int .i64 0,.int .i64 (k:Int)] h=some (.tuple [],h):=by
 have hend:compact h.length (.tuple []) h=some (.tuple [],h):=compact_plain' rfl
 have hlt:((0:Int)-0≤12)=True:=eq_true (by omega)
 have hlt2:((0:Int)≤12)=True:=eq_true (by omega)
 have hi:=fun base=>run_insertion0 (base:=base) (h:=h)
 refine callL_run func149 rfl rfl ?_
 have hsp:=@Nat.succ_ne_zero;repeat' (first|simp (disch:=first|exact dqb|fail) only [go_sem,↓reduceIte,hsp]|refine WP_drw ?_|refine cnd_intro (fun hsp=>?_) fun hsp=>?_)
 rw [WP_loop1]
 have hsp:=@Nat.succ_ne_zero;repeat' (first|simp (disch:=first|exact dqb|fail) only [go_sem,↓reduceIte,hsp,hlt,hlt2,hi,Int.sub_zero]|refine WP_drw ?_|refine cnd_intro (fun hsp=>?_) fun hsp=>?_)
 exact hend
theorem run_sort0 {base:Nat} {h:Heap}:callL prog raw base (.fn 86 [] []) [.slice none 0 0] h=some (.tuple [],h):=by
 have hend:compact h.length (.tuple []) h=some (.tuple [],h):=compact_plain' rfl
 have c1:convA prog 175 3 (.int .i64 0)=some (.int .u64 0):=by
  simp only [convA,underlying3,Fc.ik175,wrapU]
  rfl
 have hl0:lenOpA prog h 25 (.slice none 0 0)=some (.int .i64 0):=by simp [lenOpA,Fc.el25,lenA]
 have e1:=fun base=>run_len (base:=base) (h:=h) (n:=0) (by omega)
 rw [show (((0:Nat):Int))=0 from rfl] at e1
 have e2:=fun base=>run_pdq0 (base:=base) (h:=h) (k:=lenT 0)
 have hq:(insQ f86 [.slice none 0 0] || srtQ f86 [.slice none 0 0])=false:=by
  rw [Bool.or_eq_false_iff]
  exact ⟨by unfold insQ;simp,by unfold srtQ;simp⟩
 refine callL_runQ func86 rfl rfl ?_ hq
 have hsp:=@Nat.succ_ne_zero;repeat' (first|simp (disch:=first|exact dqb|fail) only [go_sem,↓reduceIte,hsp,hl0,c1,e1,e2]|refine WP_drw ?_|refine cnd_intro (fun hsp=>?_) fun hsp=>?_)
 exact hend
end Go.AM
namespace Go.AM
open Go.Proofs.Try
theorem dqc {p:Prop} (h:p:=by first|exact Nat.ne_of_beq_eq_false rfl|assumption|(apply asOne;(first|exact One.int|exact One.bool|assumption|exact Ints.one (by assumption)|exact Rows.one (by assumption)|exact Own.one (by assumption)|exact One.lit ⟨rfl,rfl,rfl⟩))|(apply asSp;(repeat first|assumption|apply SpAt.set|(refine SpAt.new ?_ (by (first|rfl|(simp only [List.length_append,List.length_cons,List.length_nil,List.length_set];done)|(simp only [List.length_append,List.length_cons,List.length_nil,List.length_set];omega))))|apply SpAt.app|apply Bytes.app);done)|(apply asBytes;(repeat first|assumption|apply Bytes.app);done)|(apply asInts;(repeat first|assumption|exact ints_nil|apply Ints.app);done)|(apply asRows;(repeat first|assumption|exact Rows.nil|apply Rows.app);done)|(apply asScal;(first|apply allS1|apply allS2|apply allS3|apply allS4)<;>(first|exact One.int|exact One.bool|assumption|exact Ints.one (by assumption)|exact Rows.one (by assumption)|exact Own.one (by assumption)|exact One.lit ⟨rfl,rfl,rfl⟩))|exact litT rfl|exact litF rfl|omega|(simp only [List.length_append,List.length_cons,List.length_nil,List.length_set,List.length_reverse];first|done|omega)|fail):p:=h
attribute [-go_sem] put_ne put_same
attribute [local go_sem ↓] put_if
theorem set_perm {a:List Int} {j:Nat} {x:Int} (hj:j<a.length):(a.set j x++[a.getD j 0]).Perm (a++[x]):=by
 have e1:a=a.take j++a.getD j 0 :: a.drop (j+1):=by
  conv=>lhs;rw [← List.take_append_drop j a]
  rw [List.drop_eq_getElem_cons hj,List.getD_eq_getElem?_getD,List.getElem?_eq_getElem hj];rfl
 have hl:(a.take j).length=j:=by rw [List.length_take];omega
 have e2:a.set j x=a.take j++x :: a.drop (j+1):=by
  generalize a.getD j 0=y at e1
  conv=>lhs;rw [e1]
  rw [List.set_append_right _ _ (by omega),hl,Nat.sub_self]
  rfl
 rw [e2]
 conv=>rhs;rw [e1]
 generalize a.take j=p
 generalize a.drop (j+1)=q
 generalize a.getD j 0=y
 simp only [List.append_assoc,List.cons_append]
 refine List.Perm.append_left p ?_
 refine (List.perm_append_comm (l₁:=x :: q) (l₂:=[y])).trans ?_
 exact (List.Perm.cons y (List.perm_append_comm (l₁:=[x]) (l₂:=q)))
theorem rep_zero:∀ n,repCells [AVal.int .i64 0] n=ints (List.replicate n 0)
 | 0=>rfl
 | n+1=>by rw [repCells,rep_zero n];rfl
theorem ord_step {a r:List Int} {j k n:Nat} (hk:a.length=k) (hj:j≤k) (hp:a.Perm (upto k)):∃ a',a'.length=k+1∧a'.Perm (upto (k+1))∧((a++List.replicate (n+1) 0).set k ((a++List.replicate (n+1) 0).getD j 0)).set j (k:Int)=a'++List.replicate n 0:=by
 rw [List.replicate_succ,upto_succ]
 by_cases e:j=k
 ·subst e
  refine ⟨a++[(j:Int)],by simp [hk],hp.append_right _,?_⟩
  rw [List.set_set,List.set_append_right _ _ (by omega),show j-a.length=0 by omega]
  simp
 ·have hja:j<a.length:=by omega
  refine ⟨a.set j k++[a.getD j 0],by simp [hk],(set_perm hja).trans (hp.append_right _),?_⟩
  rw [List.set_append_right _ _ (by omega),show k-a.length=0 by omega,List.set_cons_zero,List.set_append_left _ _ hja,List.append_assoc]
  rw [List.getD_eq_getElem?_getD,List.getElem?_append_left hja,← List.getD_eq_getElem?_getD]
  rfl
set_option maxHeartbeats 1000000 in
theorem run_order {base id k0 n:Nat} {h:Heap} {v:AVal} {silk:List Int} (hb:base≤h.length) (hS:SpAt h id v silk k0) (hk:k0+n≤900000) (hn:n≤1000) :
  Ret prog raw base (.fn 19 [] []) [.ptr (some ⟨id,0,0⟩),.int .i64 (n:Int)] h (fun w H=>SpE h id v silk (k0+n) H∧∃ l,OwnE encI 3 h.length H w l∧l.Perm (upto n)):=by
 have hid:=lt_of_get hS.1
 refine ret_raw func19 rfl (by kernel_rfl) ?_
 have hm:max 0 (n:Int)=(n:Int):=by omega
 cases n with
 | zero =>
  have hlt:((0:Int)<0)=False:=eq_false (by omega)
  have mk:makeSliceA prog h 25 (.int .i64 0) (.int .i64 0)=some (.emp,h):=by simp [makeSliceA,Fc.el25]
  have le:lenOpA prog h 25 .emp=some (.int .i64 0):=by simp [lenOpA,Fc.el25,lenA]
  have hsp:=@Nat.succ_ne_zero;repeat' (first|simp (disch:=first|exact dqc|fail) only [go_sem,↓reduceIte,hsp,Int.natCast_zero,show max (0:Int) 0=0 from rfl,mk,le]|refine WP_drw ?_|refine cnd_intro (fun hsp=>?_) fun hsp=>?_)
  rw [WP_loop1]
  have hsp:=@Nat.succ_ne_zero;repeat' (first|simp (disch:=first|exact dqc|fail) only [go_sem,↓reduceIte,hsp,hlt]|refine WP_drw ?_|refine cnd_intro (fun hsp=>?_) fun hsp=>?_)
  exact ⟨SpE.refl hS,[],.inr ⟨rfl,rfl⟩,.refl _⟩
 | succ n =>
  have mk:makeSliceA prog h 25 (.int .i64 ((n+1:Nat):Int)) (.int .i64 ((n+1:Nat):Int))=some (.slice (some ⟨h.length,0,0⟩) (n+1) (n+1),h++[srB (List.replicate (n+1) 0) 3 0]):=by
   simp only [makeSliceA,Fc.el25]
   rw [if_pos ⟨by omega,by omega,by omega⟩,if_neg (by omega),Int.toNat_natCast,rep_zero]
  have le:∀ {H:Heap},lenOpA prog H 25 (.slice (some ⟨h.length,0,0⟩) (n+1) (n+1))=some (.int .i64 ((n+1:Nat):Int)):=fun {H}=>by simp [lenOpA,Fc.el25,lenA]
  have hsp:=@Nat.succ_ne_zero;repeat' (first|simp (disch:=first|exact dqc|fail) only [go_sem,↓reduceIte,hsp,hm,mk,le]|refine WP_drw ?_|refine cnd_intro (fun hsp=>?_) fun hsp=>?_)
  refine WP_count [(6,7),(13,30)] 0 (n+1) (Nat.zero_le _) (fun _ i fr h'=>fr 13=.int .i64 (i:Int)∧∃ a:List Int,a.length=i∧a.Perm (upto i)∧h'=h.set id (spB v silk (k0+i))++[srB (a++List.replicate (n+1-i) 0) 3 0]) ?_ ?_ ?_
  ·refine ⟨by (simp (disch:=first|exact dqc|fail) only [go_sem,↓reduceIte,Int.natCast_zero];first|done|rfl),[],rfl,.refl _,?_⟩
   have e:=set_id hS.1
   show _=h.set id (spB v silk k0)++_
   rw [e];rfl
  ·rintro i fr H hi0 hi hA ⟨p13,a,hl,hp,eH⟩
   have p0:=hA 0 rfl
   have p4:=hA 4 rfl
   have p5:=hA 5 rfl
   have p12:=hA 12 rfl
   try simp (disch:=first|exact dqc|fail) only [go_sem,↓reduceIte] at p0 p4 p5 p12
   have hlt:((i:Int)<((n+1:Nat):Int))=True:=eq_true (by omega)
   have hSp:SpAt H id v silk (k0+i):=by rw [eH];exact hS.set.app
   have up1:=up_bd (silk:=silk) (k:=k0+i) (n:=(i:Int)) (by omega)
   obtain ⟨j,ej⟩:=Int.eq_ofNat_of_zero_le up1.1
   obtain ⟨q,eq⟩:∃ q,n+1-i=q+1:=⟨n-i,by omega⟩
   obtain ⟨m,em⟩:∃ m,m=a++List.replicate (q+1) (0:Int):=⟨_,rfl⟩
   have hml:m.length=n+1:=by rw [em];simp;omega
   rw [eq,← em] at eH
   obtain ⟨G,eG⟩:∃ G,G=H.set id (spB v silk (k0+i+1)):=⟨_,rfl⟩
   have eG2:G=h.set id (spB v silk (k0+i+1))++[srB m 3 0]:=by
    rw [eG,eH,List.set_append_left _ _ (by simpa using hid),List.set_set]
   have gG:G[h.length]?=some ⟨.cells (ints m) 3 true false,0⟩:=by rw [eG2];exact get_eq (by simp)
   have ru:=fun base=>run_upto (base:=base) (n:=(i:Int)) hSp (by omega) (by omega)
   rw [← eG,ej] at ru
   have adr:∀ x:Nat,x<n+1→indexAddrA prog 25 (.slice (some ⟨h.length,0,0⟩) (n+1) (n+1)) (.int .i64 (x:Int))=some (.ptr (some ⟨h.length,0,x⟩)):=fun x hx=>by
    rw [adr_sl Fc.el25 Fc.ar25 (by omega) (by omega),Int.toNat_natCast,Nat.mul_one,Nat.zero_add]
   have a1:=adr j (by omega)
   have a2:=adr i (by omega)
   have d1:loadP prog G 3 (.ptr (some ⟨h.length,0,j⟩))=some (.int .i64 (m.getD j 0)):=by
    rw [load_eq,Fc.ty3,gG];exact ldB_ints (by omega)
   have st1:∀ {K:ABlk→Heap},stQ base h.length (some ⟨.cells (ints m) 3 true false,0⟩) 0 i [.int .i64 (m.getD j 0)] K=some (K ⟨.cells (ints (m.set i (m.getD j 0))) 3 true false,0⟩):=fun {K}=>stQ_ints (by omega)
   have st2:∀ {K:ABlk→Heap},stQ base h.length (some ⟨.cells (ints (m.set i (m.getD j 0))) 3 true false,0⟩) 0 j [.int .i64 (i:Int)] K=some (K ⟨.cells (ints ((m.set i (m.getD j 0)).set j (i:Int))) 3 true false,0⟩):=fun {K}=>stQ_ints (by simp;omega)
   obtain ⟨G3,eG3⟩:∃ G3,G3=G.set h.length ⟨.cells (ints (m.set i (m.getD j 0))) 3 true false,0⟩:=⟨_,rfl⟩
   have g3:G3[h.length]?=some ⟨.cells (ints (m.set i (m.getD j 0))) 3 true false,0⟩:=by rw [eG3,List.getElem?_set_self (lt_of_get gG)]
   obtain ⟨a',h1,h2,h3⟩:=ord_step (r:=[]) (n:=q) hl (show j≤i by omega) hp
   rw [← em] at h3
   have hsp:=@Nat.succ_ne_zero;repeat' (first|simp (disch:=first|exact dqc|fail) only [go_sem,↓reduceIte,hsp,p0,p4,p5,p12,p13,hlt,ru,a1,a2,d1,gG,st1,← eG3,g3,st2]|refine WP_drw ?_|refine cnd_intro (fun hsp=>?_) fun hsp=>?_)
   refine ⟨agq,by omega,a',h1,h2,?_⟩
   rw [h3,eG3,eG2,List.set_set,List.set_append_right _ _ (by simp),List.length_set,Nat.sub_self,show n+1-(i+1)=q by omega]
   rfl
  ·rintro fr H hA ⟨p13,a,hl,hp,eH⟩
   have p0:=hA 0 rfl
   have p4:=hA 4 rfl
   have p5:=hA 5 rfl
   have p12:=hA 12 rfl
   try simp (disch:=first|exact dqc|fail) only [go_sem,↓reduceIte] at p0 p4 p5 p12
   have hlt:(((n+1:Nat):Int)<((n+1:Nat):Int))=False:=eq_false (by omega)
   have hsp:=@Nat.succ_ne_zero;repeat' (first|simp (disch:=first|exact dqc|fail) only [go_sem,↓reduceIte,hsp,p0,p4,p5,p12,p13,hlt]|refine WP_drw ?_|refine cnd_intro (fun hsp=>?_) fun hsp=>?_)
   rw [Nat.sub_self,List.replicate_zero,List.append_nil] at eH
   refine ⟨by rw [eH];exact Ext.app .refl,a,.inl (.inr ⟨h.length,0,by rw [hl],by rw [eH,show srB a 3 0=rowE encI 3 a 0 by unfold rowE;rw [flat_encI]];exact get_eq (by simp),Nat.le_refl _,by omega⟩),hp⟩
end Go.AM
namespace Go.AM
open Go.Proofs.Try
attribute [-go_sem] put_ne put_same
attribute [local go_sem ↓] put_if
theorem bstI_le {o out:List Int} {p:Nat} {B:Int} (hB:0≤B) (h:∀ q,out.getD q 0≤B):∀ {j},bstI o out p j≤B
 | 0=>by simpa [bstI] using hB
 | j+1=>by
  have:=bstI_le (o:=o) (p:=p) hB h (j:=j)
  have h2:=h (p+1+j)
  rw [bstI];split<;>omega
theorem getD_set' {l:List Int} {i j:Nat} {b:Int} (hi:i<l.length):(l.set i b).getD j 0=if i=j then b else l.getD j 0:=getD_setI hi
theorem rsN_bd {o:List Int}:∀ {k},k≤o.length→∀ q,0≤(rsN o k).getD q 0∧(rsN o k).getD q 0≤(k:Int)
 | 0,_,q=>by
  have:(rsN o 0).getD q 0=0:=by
   rw [rsN]
   by_cases h:q<o.length
   ·rw [List.getD_eq_getElem?_getD,List.getElem?_replicate,if_pos h];rfl
   ·rw [List.getD_eq_getElem?_getD,List.getElem?_replicate,if_neg h];rfl
  omega
 | k+1,hk,q=>by
  have ih:=rsN_bd (o:=o) (k:=k) (by omega)
  rw [rsN,getD_set' (by rw [rsN_len];omega)]
  split
  ·have h1:=bstI_le (o:=o) (out:=rsN o k) (p:=o.length-1-k) (B:=(k:Int)) (by omega) (fun q=>(ih q).2) (j:=k)
   have h2:=bstI_nn (o:=o) (out:=rsN o k) (p:=o.length-1-k) (j:=k)
   omega
  ·have:=ih q
   omega
theorem rsN_zero {o:List Int}:∀ {k p},k≤o.length→p<o.length-k→(rsN o k).getD p 0=0
 | 0,p,_,hp=>by rw [rsN,List.getD_eq_getElem?_getD,List.getElem?_replicate,if_pos (by omega)];rfl
 | k+1,p,hk,hp=>by
  rw [rsN,getD_set' (by rw [rsN_len];omega),if_neg (by omega)]
  exact rsN_zero (by omega) (by omega)
theorem set_same {l:List Int} {i:Nat} (hi:i<l.length):l.set i (l.getD i 0)=l:=by
 rw [getD_at hi];exact List.set_getElem_self hi
theorem bs2 {lit:Bool} {H:Heap} {a b:Int} (hl:lit=false):bsA prog lit H 25 2 [(0,.int .i64 a),(1,.int .i64 b)]=some (.slice (some ⟨H.length,0,0⟩) 2 2,H++[rowB [a,b] 0]):=by
 subst hl;simp [bsA,rowOf,Fc.el25,fillA,repCells,AVal.isN,AVal.cells,splice,rowB,ints]
set_option maxHeartbeats 2000000 in
theorem run_rises {base:Nat} {h:Heap} {v:AVal} {o:List Int} (hb:base≤h.length) (hI:Ints h v o) (h0:0<o.length) (hl:o.length≤1000) :
  Ret prog raw base (.fn 152 [] []) [v] h (fun w H=>Ext h H∧Own encI 3 h.length H w (rsA o)):=by
 have hv1:=hI.one
 have hlen:=lenI hI
 obtain ⟨n,en⟩:∃ n,n=o.length:=⟨_,rfl⟩
 have mk:makeSliceA prog h 25 (.int .i64 (o.length:Int)) (.int .i64 (o.length:Int))=some (.slice (some ⟨h.length,0,0⟩) o.length o.length,h++[srB (List.replicate o.length 0) 3 0]):=by
  rw [make_full Fc.el25 h0 (by omega),rep_zero]
 have hno:=lenI (hI.ext (.app (t:=[srB (List.replicate o.length 0) 3 0]) .refl))
 refine ret_raw func152 rfl (by kernel_rfl) ?_
 have hsp:=@Nat.succ_ne_zero;repeat' (first|simp (disch:=first|exact dqb|fail) only [go_sem,↓reduceIte,hsp,hlen,mk,hno]|refine WP_drw ?_|refine cnd_intro (fun hsp=>?_) fun hsp=>?_)
 refine WP_count [(4,51)] 0 o.length (Nat.zero_le _) (fun _ i fr H=>fr 4=.int .i64 ((o.length:Int)-1-(i:Int))∧Ext h H∧H[h.length]?=some (srB (rsN o i) 3 0)) ?_ ?_ ?_
 ·refine ⟨by rw [show (o.length:Int)-1-((0:Nat):Int)=(o.length:Int)-1 by omega];(simp (disch:=first|exact dqb|fail) only [go_sem,↓reduceIte,Int.natCast_zero];first|done|rfl),.app .refl,get_eq rfl⟩
 ·rintro i fr H hi0 hi hA ⟨r4,xH,gH⟩
  have p0:=hA 0 rfl
  have p2:=hA 2 rfl
  have p3:=hA 3 rfl
  try simp (disch:=first|exact dqb|fail) only [go_sem,↓reduceIte] at p0 p2 p3
  obtain ⟨p,ep⟩:∃ p,p=o.length-1-i:=⟨_,rfl⟩
  rw [show (o.length:Int)-1-(i:Int)=(p:Int) by omega] at r4
  have hge:((p:Int) ≥ 0)=True:=eq_true (by omega)
  have hsp:=@Nat.succ_ne_zero;repeat' (first|simp (disch:=first|exact dqb|fail) only [go_sem,↓reduceIte,hsp,r4,p0,p2,p3,hge]|refine WP_drw ?_|refine cnd_intro (fun hsp=>?_) fun hsp=>?_)
  refine WP_count [(5,45)] 0 i (Nat.zero_le _) (fun _ j fr K=>fr 5=.int .i64 ((p+1+j:Nat):Int)∧Ext h K∧K[h.length]?=some (srB ((rsN o i).set p (bstI o (rsN o i) p j)) 3 0)) ?_ ?_ ?_
  ·refine ⟨by (simp (disch:=first|exact dqb|fail) only [go_sem,↓reduceIte,Int.natCast_zero];first|done|rfl),xH,?_⟩
   have:=set_same (l:=rsN o i) (i:=p) (by rw [rsN_len];omega)
   rw [rsN_zero (by omega) (by omega)] at this
   rw [bstI,this];exact gH
  ·rintro j fr2 K hj0 hj hA2 ⟨r5,xK,gK⟩
   have d0:=hA2 0 rfl
   have d2:=hA2 2 rfl
   have d3:=hA2 3 rfl
   have d4:=hA2 4 rfl
   try simp (disch:=first|exact dqb|fail) only [go_sem,↓reduceIte,p0,p2,p3] at d0 d2 d3 d4
   have d4:=hA2 4 rfl
   simp (disch:=first|exact dqb|fail) only [go_sem,↓reduceIte,r4] at d4
   obtain ⟨q,eq⟩:∃ q,q=p+1+j:=⟨_,rfl⟩
   rw [← eq] at r5
   have hqn:q<o.length:=by omega
   have hIK:=hI.ext xK
   have hlK:=lenI hIK
   have hKl:=xK.len
   have hgK:=lt_of_get gK
   have hlt:((q:Int)<(o.length:Int))=True:=eq_true (by omega)
   have lq:=loadI hIK hqn
   have aq:=adrI (i:=(q:Int)) (by omega) hIK (by omega)
   have lp:=loadI hIK (show p<o.length by omega)
   have ap:=adrI (i:=(p:Int)) (by omega) hIK (by omega)
   rw [Int.toNat_natCast] at aq ap
   obtain ⟨b,eb⟩:∃ b,b=bstI o (rsN o i) p j:=⟨_,rfl⟩
   rw [← eb] at gK
   obtain ⟨m,em⟩:∃ m,m=(rsN o i).set p b:=⟨_,rfl⟩
   rw [← em] at gK
   have hml:m.length=o.length:=by rw [em,List.length_set,rsN_len]
   have mp:m.getD p 0=b:=by rw [em,getD_set' (by rw [rsN_len];omega),if_pos rfl]
   obtain ⟨x,ex⟩:∃ x,x=(rsN o i).getD q 0:=⟨_,rfl⟩
   have mq:m.getD q 0=x:=by rw [em,getD_set' (by rw [rsN_len];omega),if_neg (by omega),ex]
   have hbb:0≤b∧b≤1000:=by
    have h1:=bstI_le (o:=o) (out:=rsN o i) (p:=p) (B:=(i:Int)) (by omega) (fun q=>(rsN_bd (by omega) q).2) (j:=j)
    have h2:=bstI_nn (o:=o) (out:=rsN o i) (p:=p) (j:=j)
    omega
   have hxb:=rsN_bd (o:=o) (k:=i) (by omega) q
   have nxt:bstI o (rsN o i) p (j+1)=if o.getD q 0 > o.getD p 0 then max b x else b:=by rw [bstI,← eq,← eb,← ex]
   have hii:((q:Int)+1)=((p+1+(j+1):Nat):Int):=by omega
   have adr:∀ y:Nat,y<o.length→indexAddrA prog 25 (.slice (some ⟨h.length,0,0⟩) o.length o.length) (.int .i64 (y:Int))=some (.ptr (some ⟨h.length,0,y⟩)):=fun y hy=>by
    rw [adr_sl Fc.el25 Fc.ar25 (by omega) (by omega),Int.toNat_natCast,Nat.mul_one,Nat.zero_add]
   by_cases c:o.getD q 0 > o.getD p 0
   ·have t1:(o.getD q 0 > o.getD p 0)=True:=eq_true c
    rw [if_pos c] at nxt
    have a1:=adr p (by omega)
    have a2:=adr q hqn
    have d1:loadP prog K 3 (.ptr (some ⟨h.length,0,p⟩))=some (.int .i64 b):=by
     rw [load_eq,Fc.ty3,gK,← mp];exact ldB_ints (by omega)
    have d2:loadP prog K 3 (.ptr (some ⟨h.length,0,q⟩))=some (.int .i64 x):=by
     rw [load_eq,Fc.ty3,gK,← mq];exact ldB_ints (by omega)
    obtain ⟨G,eG⟩:∃ G,G=K++[rowB [b,x] 0]:=⟨_,rfl⟩
    have xG:Ext K G:=by rw [eG];exact .app .refl
    have gG:=xG.get gK
    have hG:=xG.len
    have hgr:=fun base=>run_greatest (base:=base) (h:=G) (v:=.slice (some ⟨K.length,0,0⟩) 2 2) (l:=[b,x]) (by rw [eG];exact slice_row rfl rfl ⟨by simp,fun y hy=>by simp at hy;omega⟩)
    rw [show grt [b,x]=max b x by unfold grt;simp only [List.foldl_cons,List.foldl_nil];omega] at hgr
    have st1:∀ {F:ABlk→Heap},stQ base h.length (some (srB m 3 0)) 0 p [.int .i64 (max b x)] F=some (F (srB (m.set p (max b x)) 3 0)):=fun {F}=>stQ_ints (by omega)
    have hsp:=@Nat.succ_ne_zero;repeat' (first|simp (disch:=first|exact dqb|fail) only [go_sem,↓reduceIte,hsp,r5,d4,d0,d2,d3,d4,p0,p2,p3,hlt,hlK,lq,aq,lp,ap,t1,a1,a2,d1,d2,bs2,← eG,hgr,gG,st1]|refine WP_drw ?_|refine cnd_intro (fun hsp=>?_) fun hsp=>?_)
    refine ⟨agq,by omega,(xK.trans xG).set (Nat.le_refl _),?_⟩
    rw [nxt,em,List.set_set]
   ·have t1:(o.getD q 0 > o.getD p 0)=False:=eq_false c
    rw [if_neg c] at nxt
    have hsp:=@Nat.succ_ne_zero;repeat' (first|simp (disch:=first|exact dqb|fail) only [go_sem,↓reduceIte,hsp,r5,d4,d0,d2,d3,d4,p0,p2,p3,hlt,hlK,lq,aq,lp,ap,t1]|refine WP_drw ?_|refine cnd_intro (fun hsp=>?_) fun hsp=>?_)
    refine ⟨agq,by omega,xK,?_⟩
    rw [nxt,← em];exact gK
  ·rintro fr2 K hA2 ⟨r5,xK,gK⟩
   have d0:=hA2 0 rfl
   have d2:=hA2 2 rfl
   have d3:=hA2 3 rfl
   have d4:=hA2 4 rfl
   try simp (disch:=first|exact dqb|fail) only [go_sem,↓reduceIte,p0,p2,p3] at d0 d2 d3 d4
   have d4:=hA2 4 rfl
   simp (disch:=first|exact dqb|fail) only [go_sem,↓reduceIte,r4] at d4
   have hIK:=hI.ext xK
   have hlK:=lenI hIK
   have hKl:=xK.len
   have hgK:=lt_of_get gK
   have hlt:(((p+1+i:Nat):Int)<(o.length:Int))=False:=eq_false (by omega)
   obtain ⟨b,eb⟩:∃ b,b=bstI o (rsN o i) p i:=⟨_,rfl⟩
   rw [← eb] at gK
   obtain ⟨m,em⟩:∃ m,m=(rsN o i).set p b:=⟨_,rfl⟩
   rw [← em] at gK
   have hml:m.length=o.length:=by rw [em,List.length_set,rsN_len]
   have mp:m.getD p 0=b:=by rw [em,getD_set' (by rw [rsN_len];omega),if_pos rfl]
   have hbb:0≤b∧b≤1000:=by
    have h1:=bstI_le (o:=o) (out:=rsN o i) (p:=p) (B:=(i:Int)) (by omega) (fun q=>(rsN_bd (by omega) q).2) (j:=i)
    have h2:=bstI_nn (o:=o) (out:=rsN o i) (p:=p) (j:=i)
    omega
   have a1:indexAddrA prog 25 (.slice (some ⟨h.length,0,0⟩) o.length o.length) (.int .i64 (p:Int))=some (.ptr (some ⟨h.length,0,p⟩)):=by
    rw [adr_sl Fc.el25 Fc.ar25 (by omega) (by omega),Int.toNat_natCast,Nat.mul_one,Nat.zero_add]
   have d1:loadP prog K 3 (.ptr (some ⟨h.length,0,p⟩))=some (.int .i64 b):=by
    rw [load_eq,Fc.ty3,gK,← mp];exact ldB_ints (by omega)
   have st1:∀ {F:ABlk→Heap},stQ base h.length (some (srB m 3 0)) 0 p [.int .i64 (b+1)] F=some (F (srB (m.set p (b+1)) 3 0)):=fun {F}=>stQ_ints (by omega)
   have hii:((p:Int)-1)=(o.length:Int)-1-((i+1:Nat):Int):=by omega
   have hsp:=@Nat.succ_ne_zero;repeat' (first|simp (disch:=first|exact dqb|fail) only [go_sem,↓reduceIte,hsp,r5,d4,d0,d2,d3,d4,p0,p2,p3,hlt,hlK,a1,d1,gK,st1]|refine WP_drw ?_|refine cnd_intro (fun hsp=>?_) fun hsp=>?_)
   refine ⟨agq,by omega,xK.set (Nat.le_refl _),?_⟩
   rw [em,List.set_set,rsN,← ep,← eb]
 ·rintro fr H hA ⟨r4,xH,gH⟩
  have p0:=hA 0 rfl
  have p2:=hA 2 rfl
  have p3:=hA 3 rfl
  try simp (disch:=first|exact dqb|fail) only [go_sem,↓reduceIte] at p0 p2 p3
  rw [show (o.length:Int)-1-(o.length:Int)=-1 by omega] at r4
  have hge:((-1:Int) ≥ 0)=False:=eq_false (by omega)
  have hsp:=@Nat.succ_ne_zero;repeat' (first|simp (disch:=first|exact dqb|fail) only [go_sem,↓reduceIte,hsp,r4,p0,p2,p3,hge]|refine WP_drw ?_|refine cnd_intro (fun hsp=>?_) fun hsp=>?_)
  refine ⟨xH,.inr ⟨h.length,0,by rw [rsA,rsN_len],?_,Nat.le_refl _,by rw [rsA,rsN_len];omega⟩⟩
  rw [gH,rowE,flat_encI];rfl
end Go.AM
namespace Go.AM
open Go.Proofs.Try
attribute [-go_sem] put_ne put_same
attribute [local go_sem ↓] put_if
theorem find_upto {f:Int→Bool} {n j:Nat} (hj:j<n) (h:∀ i,i<j→f (i:Int)=false) (hf:f (j:Int)=true):(upto n).find? f=some (j:Int):=by
 obtain ⟨y,h1,h2,h3,h4⟩:=find_first (f:=f) (upto_sorted n) (upto_mem.2 ⟨by omega,by omega⟩:(j:Int) ∈ upto n) hf
 rw [h1]
 rcases h4 with h4|h4
 ·rw [h4]
 ·exfalso
  obtain ⟨k,rfl⟩:=Int.eq_ofNat_of_zero_le (upto_mem.1 h2).1
  have:=h k (by simpa using h4)
  rw [h3] at this;cases this
theorem find_upto_no {f:Int→Bool} {n:Nat} (h:∀ i,i<n→f (i:Int)=false):(upto n).find? f=none:=by
 rw [List.find?_eq_none]
 intro x hx
 obtain ⟨k,rfl⟩:=Int.eq_ofNat_of_zero_le (upto_mem.1 hx).1
 rw [h k (by have:=(upto_mem.1 hx).2;omega)];simp
theorem nxtB_nil {o:List Int} {V:Nat→Int} {left p:Int}:nxtB o V [] left p=decide (V p.toNat=left):=by simp [nxtB]
theorem nxtB_at {o out:List Int} {V:Nat→Int} {left p:Int} (h:0<out.length):nxtB o V out left p=(decide (V p.toNat=left) && decide (out.getD (out.length-1) 0<p∧o.getD (out.getD (out.length-1) 0).toNat 0<o.getD p.toNat 0)):=by
 unfold nxtB
 rw [List.getLast?_eq_getElem?,getD_some (d:=0) (by omega)]
theorem riseF_none {o:List Int} {V:Nat→Int} {m:Nat} {out:List Int} (h:∀ i,i<o.length→nxtB o V out ((m+1:Nat):Int) (i:Int)=false):riseF o V (m+1) out=riseF o V m out:=by
 rw [riseF,riseS,find_upto_no h]
theorem riseF_some {o:List Int} {V:Nat→Int} {m j:Nat} {out:List Int} (hj:j<o.length) (h:∀ i,i<j→nxtB o V out ((m+1:Nat):Int) (i:Int)=false) (hf:nxtB o V out ((m+1:Nat):Int) (j:Int)=true):riseF o V (m+1) out=riseF o V m (out++[(j:Int)]):=by
 rw [riseF,riseS,find_upto hj h hf]
theorem rsA_len {o:List Int}:(rsA o).length=o.length:=rsN_len _
theorem rsA_bd {o:List Int} (q:Nat):0≤(rsA o).getD q 0∧(rsA o).getD q 0≤(o.length:Int):=rsN_bd (Nat.le_refl _) q
theorem rsA_small {o:List Int} (h:o.length≤1000):Small (rsA o):=by
 refine ⟨by rw [rsA_len];omega,fun x hx=>?_⟩
 obtain ⟨i,hi,rfl⟩:=List.mem_iff_getElem.1 hx
 have:=rsA_bd (o:=o) i
 rw [getD_at hi] at this
 omega
theorem grt_rsA {o:List Int} (h:o.length≤1000):0≤grt (rsA o)∧grt (rsA o)≤1000:=by
 refine ⟨grt_ge.1,?_⟩
 rcases grt_is (l:=rsA o) (a:=0) with q|q
 ·unfold grt;omega
 ·obtain ⟨i,hi,e⟩:=List.mem_iff_getElem.1 q
  have:=rsA_bd (o:=o) i
  rw [getD_at hi,e] at this
  unfold grt;omega
set_option maxHeartbeats 4000000 in
theorem run_rise {base:Nat} {h:Heap} {v:AVal} {o:List Int} (hb:base≤h.length) (hI:Ints h v o) (h0:0<o.length) (hl:o.length≤1000) :
  Ret prog raw base (.fn 89 [] []) [v] h (fun w H=>Ext h H∧Own encI 3 h.length H w (riseL o)):=by
 have hv1:=hI.one
 obtain ⟨w1,H1,e1,x1,o1⟩:=run_rises hb hI h0 hl
 have ho1:=o1.one
 have i1:=own_ints o1 (rsA_small hl)
 have hg:=fun base=>run_greatest (base:=base) i1
 have hl1:=x1.len
 have hgb:=grt_rsA hl
 obtain ⟨N,eN⟩:=Int.eq_ofNat_of_zero_le hgb.1
 rw [eN] at hg
 obtain ⟨V,eV⟩:∃ V:Nat→Int,V=fun p=>(rsA o).getD p 0:=⟨_,rfl⟩
 have hres:riseL o=riseF o V N []:=by unfold riseL;rw [eN,eV];rfl
 rw [hres]
 refine ret_raw func89 rfl (by kernel_rfl) ?_
 have hsp:=@Nat.succ_ne_zero;repeat' (first|simp (disch:=first|exact dqb|fail) only [go_sem,↓reduceIte,hsp,e1,hg]|refine WP_drw ?_|refine cnd_intro (fun hsp=>?_) fun hsp=>?_)
 refine WP_count [(4,61)] 0 N (Nat.zero_le _) (fun _ i fr K=>fr 5=.int .i64 ((N-i:Nat):Int)∧Ext H1 K∧∃ out w,fr 4=w∧Own encI 3 H1.length K w out∧(∀ a ∈ out,0≤a∧a<(o.length:Int))∧out.length≤i∧riseF o V N []=riseF o V (N-i) out) ?_ ?_ ?_
 ·exact ⟨by (simp (disch:=first|exact dqb|fail) only [go_sem,↓reduceIte,Int.natCast_zero];first|done|rfl),.refl,[],.slice none 0 0,by simp (disch:=first|exact dqb|fail) only [go_sem,↓reduceIte],Own.nil,fun a ha=>by simp at ha,Nat.le_refl _,rfl⟩
 ·rintro i fr K hi0 hi hA ⟨r5,xK,out,w,r4,hO,hin,hol,hF⟩
  have p0:=hA 0 rfl
  have p2:=hA 2 rfl
  have p3:=hA 3 rfl
  try simp (disch:=first|exact dqb|fail) only [go_sem,↓reduceIte] at p0 p2 p3
  obtain ⟨m,em⟩:∃ m,N-i=m+1:=⟨N-i-1,by omega⟩
  have em2:N-(i+1)=m:=by omega
  rw [em] at r5 hF
  have hgt:(((m+1:Nat):Int) > 0)=True:=eq_true (by omega)
  have iK:=i1.ext xK
  have lK:=lenI iK
  rw [rsA_len] at lK
  have hw1:=hO.one
  have hOs:Small out:=⟨by omega,fun a ha=>by have:=hin a ha;omega⟩
  have iO:=own_ints hO hOs
  have lO:=lenI iO
  have xh:=x1.trans xK
  have hIK:=hI.ext xh
  have hKl:=xK.len
  have hm1:(((m+1:Nat):Int)-1)=(m:Int):=by omega
  have hsp:=@Nat.succ_ne_zero;repeat' (first|simp (disch:=first|exact dqb|fail) only [go_sem,↓reduceIte,hsp,r5,r4,p0,p2,p3,hgt,lK]|refine WP_drw ?_|refine cnd_intro (fun hsp=>?_) fun hsp=>?_)
  refine WP_count [(4,4),(6,7),(18,61)] 0 o.length (Nat.zero_le _) (fun _ j fr H=>fr 18=.int .i64 (j:Int)∧fr 4=w∧H=K∧∀ i',i'<j→nxtB o V out ((m+1:Nat):Int) (i':Int)=false) ?_ ?_ ?_
  ·exact ⟨by (simp (disch:=first|exact dqb|fail) only [go_sem,↓reduceIte,Int.natCast_zero];first|done|rfl),by simp (disch:=first|exact dqb|fail) only [go_sem,↓reduceIte,r4],rfl,fun i' q=>by omega⟩
  ·rintro j fr2 K' hj0 hj hA2 ⟨r18,r4',eK,hno⟩
   subst eK
   have d0:=hA2 0 rfl
   have d2:=hA2 2 rfl
   have d3:=hA2 3 rfl
   have d5:=hA2 5 rfl
   have d16:=hA2 16 rfl
   have d17:=hA2 17 rfl
   try simp (disch:=first|exact dqb|fail) only [go_sem,↓reduceIte,p0,p2,p3] at d0 d2 d3 d5 d16 d17
   have d5:=hA2 5 rfl
   simp (disch:=first|exact dqb|fail) only [go_sem,↓reduceIte,r5] at d5
   have hlt:((j:Int)<(o.length:Int))=True:=eq_true (by omega)
   have lj:=loadI iK (i:=j) (by rw [rsA_len];exact hj)
   have aj:=adrI (i:=(j:Int)) (by omega) iK (by rw [rsA_len];omega)
   have lp:=loadI hIK hj
   have ap:=adrI (i:=(j:Int)) (by omega) hIK (by omega)
   rw [Int.toNat_natCast] at aj ap
   have hVj:V j=(rsA o).getD j 0:=by rw [eV]
   have hjj:((j:Int)+1)=((j+1:Nat):Int):=by omega
   obtain ⟨w',K2,ea,oW,lW,eW,oneW,kW⟩:=OwnE.snocI (base:=base) (x:=(j:Int)) (.inl hO) (by omega) (by omega) (by omega)
   have fin:nxtB o V out ((m+1:Nat):Int) (j:Int)=true→Ext H1 K2∧∃ out':List Int,∃ w2,w'=w2∧Own encI 3 H1.length K2 w2 out'∧(∀ a ∈ out',0≤a∧a<(o.length:Int))∧out'.length≤i+1∧riseF o V N []=riseF o V (N-(i+1)) out':=fun q=>by
    refine ⟨eW _ (Nat.le_refl _) xK,_,_,rfl,oW,fun a ha=>?_,by simp;omega,by rw [em2,hF,riseF_some hj hno q]⟩
    rcases List.mem_append.1 ha with ha|ha
    ·exact hin a ha
    ·simp at ha;omega
   have skip:nxtB o V out ((m+1:Nat):Int) (j:Int)=false→∀ i',i'<j+1→nxtB o V out ((m+1:Nat):Int) (i':Int)=false:=fun q i' hi'=>by
    by_cases e:i'=j
    ·rw [e];exact q
    ·exact hno i' (by omega)
   by_cases c1:(rsA o).getD j 0=((m+1:Nat):Int)
   ·have t1:((rsA o).getD j 0=((m+1:Nat):Int))=True:=eq_true c1
    by_cases c2:out=[]
    ·subst c2
     have t2:(((([]:List Int).length:Nat):Int)=0)=True:=eq_true rfl
     have hnx:nxtB o V [] ((m+1:Nat):Int) (j:Int)=true:=by rw [nxtB_nil,Int.toNat_natCast,hVj];exact decide_eq_true c1
     obtain ⟨f1,f2⟩:=fin hnx
     have hsp:=@Nat.succ_ne_zero;repeat' (first|simp (disch:=first|exact dqb|fail) only [go_sem,↓reduceIte,hsp,r18,r4',d5,d0,d2,d3,d5,d16,d17,p0,p2,p3,hlt,lj,aj,lp,ap,t1,lO,t2,ea]|refine WP_drw ?_|refine cnd_intro (fun hsp=>?_) fun hsp=>?_)
     exact ⟨agq,by rw [em2];omega,f1,f2⟩
    ·have hpos:0<out.length:=by cases out with|nil=>exact absurd rfl c2|cons a b=>simp
     have t2:((out.length:Int)=0)=False:=eq_false (by omega)
     obtain ⟨a,ea'⟩:∃ a,a=out.getD (out.length-1) 0:=⟨_,rfl⟩
     have hab:=hin a (by rw [ea'];exact getD_mem (by omega))
     have t3:((out.length:Int)-1)=((out.length-1:Nat):Int):=by omega
     have al:=adrI (i:=((out.length-1:Nat):Int)) (by omega) iO (by omega)
     rw [Int.toNat_natCast] at al
     have ll:=loadI iO (i:=out.length-1) (by omega)
     rw [← ea'] at ll
     have aa:=adrI (i:=a) (by omega) hIK (by omega)
     have la:=loadI hIK (i:=a.toNat) (by omega)
     have hnx:=nxtB_at (o:=o) (V:=V) (left:=((m+1:Nat):Int)) (p:=(j:Int)) hpos
     rw [← ea',Int.toNat_natCast,hVj,decide_eq_true c1,Bool.true_and] at hnx
     by_cases c3:(j:Int) > a
     ·have t4:((j:Int) > a)=True:=eq_true c3
      by_cases c4:o.getD j 0 > o.getD a.toNat 0
      ·have t5:(o.getD j 0 > o.getD a.toNat 0)=True:=eq_true c4
       obtain ⟨f1,f2⟩:=fin (by rw [hnx];exact decide_eq_true ⟨c3,c4⟩)
       have hsp:=@Nat.succ_ne_zero;repeat' (first|simp (disch:=first|exact dqb|fail) only [go_sem,↓reduceIte,hsp,r18,r4',d5,d0,d2,d3,d5,d16,d17,p0,p2,p3,hlt,lj,aj,lp,ap,t1,lO,t2,t3,al,ll,aa,la,t4,t5,ea]|refine WP_drw ?_|refine cnd_intro (fun hsp=>?_) fun hsp=>?_)
       exact ⟨agq,by rw [em2];omega,f1,f2⟩
      ·have t5:(o.getD j 0 > o.getD a.toNat 0)=False:=eq_false c4
       have s1:=skip (by rw [hnx];exact decide_eq_false (fun q=>c4 q.2))
       have hsp:=@Nat.succ_ne_zero;repeat' (first|simp (disch:=first|exact dqb|fail) only [go_sem,↓reduceIte,hsp,r18,r4',d5,d0,d2,d3,d5,d16,d17,p0,p2,p3,hlt,lj,aj,lp,ap,t1,lO,t2,t3,al,ll,aa,la,t4,t5]|refine WP_drw ?_|refine cnd_intro (fun hsp=>?_) fun hsp=>?_)
       exact ⟨agq,by omega,s1⟩
     ·have t4:((j:Int) > a)=False:=eq_false c3
      have s1:=skip (by rw [hnx];exact decide_eq_false (fun q=>c3 q.1))
      have hsp:=@Nat.succ_ne_zero;repeat' (first|simp (disch:=first|exact dqb|fail) only [go_sem,↓reduceIte,hsp,r18,r4',d5,d0,d2,d3,d5,d16,d17,p0,p2,p3,hlt,lj,aj,lp,ap,t1,lO,t2,t3,al,ll,aa,la,t4]|refine WP_drw ?_|refine cnd_intro (fun hsp=>?_) fun hsp=>?_)
      exact ⟨agq,by omega,s1⟩
   ·have t1:((rsA o).getD j 0=((m+1:Nat):Int))=False:=eq_false c1
    have s1:=skip (by unfold nxtB;rw [Int.toNat_natCast,hVj,decide_eq_false c1];rfl)
    have hsp:=@Nat.succ_ne_zero;repeat' (first|simp (disch:=first|exact dqb|fail) only [go_sem,↓reduceIte,hsp,r18,r4',d5,d0,d2,d3,d5,d16,d17,p0,p2,p3,hlt,lj,aj,lp,ap,t1]|refine WP_drw ?_|refine cnd_intro (fun hsp=>?_) fun hsp=>?_)
    exact ⟨agq,by omega,s1⟩
  ·rintro fr2 K' hA2 ⟨r18,r4',eK,hno⟩
   subst eK
   have d0:=hA2 0 rfl
   have d2:=hA2 2 rfl
   have d3:=hA2 3 rfl
   have d5:=hA2 5 rfl
   have d16:=hA2 16 rfl
   have d17:=hA2 17 rfl
   try simp (disch:=first|exact dqb|fail) only [go_sem,↓reduceIte,p0,p2,p3] at d0 d2 d3 d5 d16 d17
   have d5:=hA2 5 rfl
   simp (disch:=first|exact dqb|fail) only [go_sem,↓reduceIte,r5] at d5
   have hlt:((o.length:Int)<(o.length:Int))=False:=eq_false (by omega)
   have hsp:=@Nat.succ_ne_zero;repeat' (first|simp (disch:=first|exact dqb|fail) only [go_sem,↓reduceIte,hsp,r18,r4',d5,d0,d2,d3,d5,d16,d17,p0,p2,p3,hlt]|refine WP_drw ?_|refine cnd_intro (fun hsp=>?_) fun hsp=>?_)
   exact ⟨agq,by rw [em2];omega,xK,out,w,rfl,hO,hin,by omega,by rw [em2,hF,riseF_none hno]⟩
 ·rintro fr K hA ⟨r5,xK,out,w,r4,hO,hin,hol,hF⟩
  have p0:=hA 0 rfl
  have p2:=hA 2 rfl
  have p3:=hA 3 rfl
  try simp (disch:=first|exact dqb|fail) only [go_sem,↓reduceIte] at p0 p2 p3
  rw [Nat.sub_self] at r5 hF
  rw [Int.natCast_zero] at r5
  have hw1:=hO.one
  have hgt:((0:Int) > 0)=False:=eq_false (by omega)
  have hsp:=@Nat.succ_ne_zero;repeat' (first|simp (disch:=first|exact dqb|fail) only [go_sem,↓reduceIte,hsp,r5,r4,p0,p2,p3,hgt]|refine WP_drw ?_|refine cnd_intro (fun hsp=>?_) fun hsp=>?_)
  refine ⟨x1.trans xK,?_⟩
  rw [hF,riseF]
  exact hO.low hl1
def risE (o:List Int):List Int × Int:=if aloL o=0 then (riseL o,0) else ([],aloL o)
theorem run_Rise {base:Nat} {h:Heap} {v:AVal} {o:List Int} (hb:base≤h.length) (hI:Ints h v o) :
  Ret prog raw base (.fn 23 [] []) [v] h (fun w H=>Ext h H∧∃ x,w=.tuple [x,.int .i64 (risE o).2]∧Own encI 3 h.length H x (risE o).1):=by
 have ha:=fun base=>run_alone (base:=base) hI
 by_cases c:aloL o=0
 ·obtain ⟨c1,c2,c3⟩:=aloL_iff.1 c
  obtain ⟨w1,H1,e1,x1,o1⟩:=run_rise hb hI (by omega) (by omega)
  have ho1:=o1.one
  rw [c] at ha
  have r:risE o=(riseL o,0):=by unfold risE;rw [if_pos c]
  rw [r]
  have hl1:=x1.len
  refine ret_raw func23 rfl (by kernel_rfl) ?_
  have hsp:=@Nat.succ_ne_zero;repeat' (first|simp (disch:=first|exact dqb|fail) only [go_sem,↓reduceIte,hsp,ha,eq_self,e1]|refine WP_drw ?_|refine cnd_intro (fun hsp=>?_) fun hsp=>?_)
  exact ⟨x1,_,rfl,o1⟩
 ·have t1:(aloL o=0)=False:=eq_false c
  have r:risE o=([],aloL o):=by unfold risE;rw [if_neg c]
  rw [r]
  refine ret_raw func23 rfl (by kernel_rfl) ?_
  have hsp:=@Nat.succ_ne_zero;repeat' (first|simp (disch:=first|exact dqb|fail) only [go_sem,↓reduceIte,hsp,ha,t1]|refine WP_drw ?_|refine cnd_intro (fun hsp=>?_) fun hsp=>?_)
  exact ⟨.refl,_,rfl,Own.nil⟩
end Go.AM
