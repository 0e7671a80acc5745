/-
  Contracts: the wants without which less is earned (Needed).
-/
import Derived.Test.YtikgghhceolaeaaGreatU25
import Derived.Test.YtikgghhceolaeaaGreatU22
set_option linter.unusedSimpArgs false
set_option linter.unusedVariables false
namespace Go.AM
open Go.Proofs.Tryz
attribute [-go_sem] put_ne put_same
attribute [local go_sem ↓] put_if
def nedE (R:Rib):List Int:=if chkR R ≠ 0 then [] else nedL R
def nedN (R:Rib) (n:Nat):List Int:=(upto n).filter fun k=>decide (valD (witR R k.toNat) 0<valD R 0)
theorem nedN_succ {R:Rib} {n:Nat}:nedN R (n+1)=nedN R n++if valD (witR R n) 0<valD R 0 then [(n:Int)] else []:=by
 unfold nedN
 rw [upto_succ,List.filter_append,List.filter_cons,List.filter_nil,Int.toNat_natCast]
 by_cases c:valD (witR R n) 0<valD R 0
 ·rw [decide_eq_true c,if_pos rfl,if_pos c]
 ·rw [decide_eq_false c,if_neg (by simp),if_neg c]
theorem nedN_len {R:Rib} {n:Nat}:(nedN R n).length≤n:=by
 unfold nedN
 exact Nat.le_trans (List.length_filter_le _ _) (by rw [upto_len];exact Nat.le_refl _)
set_option maxRecDepth 100000 in
set_option maxHeartbeats 4000000 in
theorem run_Needed {base:Nat} {h:Heap} {v:AVal} {R:Rib} (hb:base≤h.length) (hA:RibAt h v R) (hsm:R.F.length≤1048576) :
  Ret prog raw base (.fn 89 [] []) [v] h (fun w H=>Ext h H∧∃ u,w=.tuple [u,.int .i64 (chkR R)]∧Own encI 3 h.length H u (nedE R)):=by
 have hAe:=fun H (e:Ext h H)=>hA.ext e
 obtain ⟨fv,wv,rfl,hF,hW⟩:=hA
 have o1:=hF.one
 have o2:=hW.one
 obtain ⟨G0,eG0⟩:∃ G0,G0=h++[ribB R.L fv wv]:=⟨_,rfl⟩
 have x0:Ext h G0:=by rw [eG0];exact .app .refl
 have g0:G0[h.length]?=some (ribB R.L fv wv):=by rw [eG0];exact get_eq rfl
 have l0:G0.length=h.length+1:=by rw [eG0];simp
 obtain ⟨w1,H1,e1,x1,r1,r2⟩:=run_opened (base:=base) (h:=G0) (by omega) (hAe G0 x0) hsm
 have l1:=x1.len
 have xx:=x0.trans x1
 have p0:=x1.get g0
 unfold ribB at eG0 g0
 by_cases c0:chkR R=0
 ·obtain ⟨id,rfl,hid,hD⟩:=r2 c0
  have hR:=chkR_iff.1 c0
  have hL:=hR.L
  have hnW:=hR.nW
  have hm:=fun base=>run_made (base:=base) hD hR
  have hz:zer61.length=61:=by decide
  have ml:=mdS_len (R:=R) (x:=0)
  have mv:=mdS_at (R:=R) (x:=0) (y:=0) (by omega) (Nat.le_refl _)
  obtain ⟨H2,eH2⟩:∃ H2,H2=H1++[valBk (mdS R 0)]:=⟨_,rfl⟩
  have x2:Ext H1 H2:=by rw [eH2];exact .app .refl
  have l2:H2.length=H1.length+1:=by rw [eH2];simp
  have gq:H2[H1.length]?=some (valBk (mdS R 0)):=by rw [eH2];exact get_eq rfl
  have stV:=stV61 (base:=base) (id:=H1.length) (H:=H1++[valBk zer61]) (l:=mdS R 0) (m:=zer61) (get_eq rfl) ml hz
  rw [set_eq rfl,← eH2] at stV
  have re:nedE R=nedN R R.W.length:=by unfold nedE;rw [if_neg (fun q=>q c0)];rfl
  rw [re,c0]
  have hn:=(hW.ext (xx.trans x2)).len (P:=prog) Fc.el33
  have p2:=x2.get p0
  unfold ribB at p0 p2
  unfold valBk zer61 at stV
  refine ret_raw func89 rfl (by kernel_rfl) ?_
  have hsp:=@Nat.succ_ne_zero;repeat' (first|simp (disch:=first|exact dq|fail) only [go_sem,↓reduceIte,hsp,← eG0,g0,e1,eq_self,hm,stV,p2,hn]|refine WP_drw ?_|refine cnd_intro (fun hsp=>?_) fun hsp=>?_)
  refine WP_count [(7,9),(23,45)] 0 R.W.length (Nat.zero_le _) (fun _ k fr K=>fr 23=.int .i64 (k:Int)∧Ext H2 K∧∃ w,fr 7=w∧Own encI 3 H2.length K w (nedN R k)) ?_ ?_ ?_
  ·exact ⟨by (simp (disch:=first|exact dq|fail) only [go_sem,↓reduceIte,Int.natCast_zero];first|done|rfl),.refl,.slice none 0 0,by (simp (disch:=first|exact dq|fail) only [go_sem,↓reduceIte,Int.natCast_zero];first|done|rfl),Own.nil⟩
  ·rintro k fr K hk0 hk hAg ⟨r23,xK,w,r7,oW⟩
   have q1:=hAg 1 rfl
   have q2:=hAg 2 rfl
   have q3:=hAg 3 rfl
   have q6:=hAg 6 rfl
   have q22:=hAg 22 rfl
   try simp (disch:=first|exact dq|fail) only [go_sem,↓reduceIte] at q1 q2 q3 q6 q22
   have hlt:((k:Int)<(R.W.length:Int))=True:=eq_true (by omega)
   have ow:=oW.one
   have lK:=xK.len
   have xh:=(xx.trans x2).trans xK
   have pK:=xK.get p2
   have qK:=xK.get gq
   have hnl:=nedN_len (R:=R) (n:=k)
   have hR2:=hR.wit k
   obtain ⟨wr,K1,f1,y1,aW⟩:=run_without (base:=base) (h:=K) (k:=k) (by omega) (hAe K xh) hR hk
   have k1:=y1.len
   have aW':=aW
   obtain ⟨fw2,ww2,rfl,hF2,hW2⟩:=aW'
   have ofw2:=hF2.one
   have oww2:=hW2.one
   obtain ⟨_,K2,f2,y2,id2,rfl,hid2,hD2⟩:=run_worked (base:=base) (h:=K1) (by omega) aW hR2
   have k2:=y2.len
   have hm2:=fun base=>run_made (base:=base) hD2 hR2
   have ml2:=mdS_len (R:=witR R k) (x:=0)
   have mv2:=mdS_at (R:=witR R k) (x:=0) (y:=0) (by omega) (Nat.le_refl _)
   obtain ⟨K3,eK3⟩:∃ K3,K3=K2++[valBk (mdS (witR R k) 0)]:=⟨_,rfl⟩
   have y3:Ext K2 K3:=by rw [eK3];exact .app .refl
   have k3:K3.length=K2.length+1:=by rw [eK3];simp
   have qK3:K3[K2.length]?=some (valBk (mdS (witR R k) 0)):=by rw [eK3];exact get_eq rfl
   have stW:=stV61 (base:=base) (id:=K2.length) (H:=K2++[valBk zer61]) (l:=mdS (witR R k) 0) (m:=zer61) (get_eq rfl) ml2 hz
   rw [set_eq rfl,← eK3] at stW
   have y13:=(y1.trans y2).trans y3
   have q13:=y13.get qK
   have ne:=ne61 (a:=mdS (witR R k) 0) (b:=mdS R 0) ml2 ml
   have ldA:=ldA61 (l:=mdS R 0) (e:=106) (row:=false) (ro:=false) ml
   have ldB':=ldA61 (l:=mdS (witR R k) 0) (e:=106) (row:=false) (ro:=false) ml2
   have ld0:∀ z,ldB (some (false,z)) (some (valBk (mdS R 0))) 0 0=some (.int .i64 (valD R 0)):=fun z=>by rw [← mv];exact ldB_ints (by omega)
   have ld1:∀ z,ldB (some (false,z)) (some (valBk (mdS (witR R k) 0))) 0 0=some (.int .i64 (valD (witR R k) 0)):=fun z=>by rw [← mv2];exact ldB_ints (by omega)
   have hsuc:=nedN_succ (R:=R) (n:=k)
   unfold ribB at pK
   unfold valBk zer61 at stW
   unfold valBk at q13 qK3 ld0 ld1
   obtain ⟨a0,ea0⟩:∃ a0,a0=valD R 0:=⟨_,rfl⟩
   obtain ⟨a1,ea1⟩:∃ a1,a1=valD (witR R k) 0:=⟨_,rfl⟩
   by_cases c1:a1<a0
   ·rw [ne_lt (by rw [mv,mv2,← ea0,← ea1];exact c1)] at ne
    rw [← ea0] at ld0
    rw [← ea1] at ld1
    rw [← ea0,← ea1,if_pos c1] at hsuc
    have t1:(a1<a0)=True:=eq_true c1
    obtain ⟨w',K4,ea,oW',lW,eW,oneW⟩:=(oW.ext y13).append1 (P:=prog) (y:=(k:Int)) (a:=.int .i64 (k:Int)) (base:=base) (t:=32) rfl rfl Fc.el32 encI_sc (by omega) (by omega) (by omega)
    have hsp:=@Nat.succ_ne_zero;repeat' (first|simp (disch:=first|exact dq|fail) only [go_sem,↓reduceIte,hsp,r23,r7,q1,q2,q3,q6,q22,hlt,pK,f1,f2,hm2,stW,q13,qK3,ldA,ldB',ne,ld0,ld1,t1,ea]|refine WP_drw ?_|refine cnd_intro (fun hsp=>?_) fun hsp=>?_)
    exact ⟨agq,by omega,eW H2 (Nat.le_refl _) (xK.trans y13),w',rfl,by rw [hsuc];exact oW'⟩
   ·rw [← ea0] at ld0
    rw [← ea1] at ld1
    rw [← ea0,← ea1,if_neg c1,List.append_nil] at hsuc
    have t1:(a1<a0)=False:=eq_false c1
    obtain ⟨bb,ebb⟩:∃ bb,bb=(!(List.range 61).all fun i=>decide ((mdS (witR R k) 0).getD i 0=(mdS R 0).getD i 0)):=⟨_,rfl⟩
    rw [← ebb] at ne
    cases bb with
    | false =>
     have hsp:=@Nat.succ_ne_zero;repeat' (first|simp (disch:=first|exact dq|fail) only [go_sem,↓reduceIte,hsp,r23,r7,q1,q2,q3,q6,q22,hlt,pK,f1,f2,hm2,stW,q13,qK3,ldA,ldB',ne]|refine WP_drw ?_|refine cnd_intro (fun hsp=>?_) fun hsp=>?_)
     exact ⟨agq,by omega,xK.trans y13,w,rfl,by rw [hsuc];exact oW.ext y13⟩
    | true =>
     have hsp:=@Nat.succ_ne_zero;repeat' (first|simp (disch:=first|exact dq|fail) only [go_sem,↓reduceIte,hsp,r23,r7,q1,q2,q3,q6,q22,hlt,pK,f1,f2,hm2,stW,q13,qK3,ldA,ldB',ne,ld0,ld1,t1]|refine WP_drw ?_|refine cnd_intro (fun hsp=>?_) fun hsp=>?_)
     exact ⟨agq,by omega,xK.trans y13,w,rfl,by rw [hsuc];exact oW.ext y13⟩
  ·rintro fr K hAg ⟨r23,xK,w,r7,oW⟩
   have q1:=hAg 1 rfl
   have q2:=hAg 2 rfl
   have q3:=hAg 3 rfl
   have q6:=hAg 6 rfl
   have q22:=hAg 22 rfl
   try simp (disch:=first|exact dq|fail) only [go_sem,↓reduceIte] at q1 q2 q3 q6 q22
   have hlt:((R.W.length:Int)<(R.W.length:Int))=False:=eq_false (by omega)
   have ow:=oW.one
   have hsp:=@Nat.succ_ne_zero;repeat' (first|simp (disch:=first|exact dq|fail) only [go_sem,↓reduceIte,hsp,r23,r7,q1,q2,q3,q6,q22,hlt]|refine WP_drw ?_|refine cnd_intro (fun hsp=>?_) fun hsp=>?_)
   exact ⟨(xx.trans x2).trans xK,w,rfl,oW.low (by omega)⟩
 ·have t0:(chkR R=0)=False:=eq_false c0
  have r:=r1 c0
  subst r
  have re:nedE R=[]:=by unfold nedE;rw [if_pos c0]
  rw [re]
  refine ret_raw func89 rfl (by kernel_rfl) ?_
  have hsp:=@Nat.succ_ne_zero;repeat' (first|simp (disch:=first|exact dq|fail) only [go_sem,↓reduceIte,hsp,← eG0,g0,e1,t0]|refine WP_drw ?_|refine cnd_intro (fun hsp=>?_) fun hsp=>?_)
  exact ⟨xx,_,rfl,Own.nil⟩
end Go.AM
namespace Go.AM
theorem upS_M {n y:Nat} {s:List Int × List Int} {a c:Int} (h:UpK n s) (hy:y≤n):(fun i=>(upS s y a c).1.getD i 0)=rlx (fun i=>s.1.getD i 0) y a:=by
 have h1:=h.l1
 funext i
 unfold upS
 by_cases e:thB true (a,c) (s.1.getD y 0,s.2.getD y 0)=true
 ·rw [if_pos e]
  have hle:s.1.getD y 0≤a:=by
   unfold thB at e
   simp only [Bool.true_and,Bool.or_eq_true,Bool.and_eq_true,decide_eq_true_eq] at e
   omega
  simp only
  rw [getD_setD (by omega)]
  unfold rlx
  by_cases q:i=y
  ·rw [if_pos q,if_pos q];exact (Int.max_eq_right hle).symm
  ·rw [if_neg q,if_neg q]
 ·rw [if_neg e]
  have hle:a≤s.1.getD y 0:=by
   unfold thB at e
   simp only [Bool.true_and,Bool.or_eq_true,Bool.and_eq_true,decide_eq_true_eq] at e
   omega
  unfold rlx
  by_cases q:i=y
  ·rw [if_pos q,q];exact (Int.max_eq_left hle).symm
  ·rw [if_neg q]
section
variable {R:Rib} {x:Nat}
theorem upX_partM (hR:RibOk R) (hx:x<R.L.toNat) {s:List Int × List Int} (h:UpK R.L.toNat s):∀ (l:List (Ct × Int × Int)) (t:List Int × List Int) (K:Nat→Int),(∀ c ∈ l,c ∈ cutL R x)→UpK R.L.toNat t→t.1.getD x 0=s.1.getD x 0→t.2.getD x 0=s.2.getD x 0→(fun i=>t.1.getD i 0)=K →
  (fun i=>(l.foldl (upC x) t).1.getD i 0)=l.foldl (fun K' c=>rlx K' c.2.1.toNat (s.1.getD x 0+id c.2.2)) K
 | [],t,K,_,k,e1,e2,e3=>e3
 | c :: l,t,K,hl,k,e1,e2,e3=>by
  have hL:=hR.L
  obtain ⟨hb,hf,hw0,hw1,w,hw,ht⟩:=cutL_b hR hx (hl c (by simp))
  have htb:=takL_b hR (hR.W w (List.mem_of_getElem? hw)) hx ht
  have b1:=h.b1 x
  have b2:=h.b2 x
  obtain ⟨g1,g2,g3⟩:=k.one (y:=c.2.1.toNat) (a:=t.1.getD x 0+c.2.2) (c:=t.2.getD x 0+1) (by omega) (by omega) (by rw [e1];omega) (by rw [e2];omega)
  have g4:=g3 x (by omega)
  rw [List.foldl_cons,List.foldl_cons]
  refine upX_partM hR hx h l _ _ (fun d hd=>hl d (by simp [hd])) g1 (g4.1.trans e1) (g4.2.trans e2) ?_
  show (fun i=>(upS t c.2.1.toNat (t.1.getD x 0+c.2.2) (t.2.getD x 0+1)).1.getD i 0)=_
  rw [upS_M k (by omega),e1,e3]
  rfl
theorem upN_M (hR:RibOk R) {f:Nat}:∀ {n:Nat},f+n≤R.L.toNat→(fun i=>(upN R f n).1.getD i 0)=fwN R id n f (fun _=>0)
 | 0,_=>by
  funext i
  simp only [upN,fwN,List.getD_eq_getElem?_getD,List.getElem?_replicate];split<;>rfl
 | n+1,h=>by
  have ih:=upN_M hR (f:=f) (n:=n) (by omega)
  obtain ⟨h1,-⟩:=upN_ok hR (f:=f) (n:=n) (by omega)
  have hL:=hR.L
  have b1:=h1.b1 (f+n)
  have b2:=h1.b2 (f+n)
  have hx:f+n<R.L.toNat:=by omega
  obtain ⟨g1,g2,g3⟩:=h1.one (y:=f+n+1) (a:=(upN R f n).1.getD (f+n) 0) (c:=(upN R f n).2.getD (f+n) 0) (by omega) (by omega) (by omega) (by omega)
  have g4:=g3 (f+n) (by omega)
  rw [fwN_succ,← ih]
  exact upX_partM hR hx h1 (cutL R (f+n)) _ _ (fun _ q=>q) g1 g4.1 g4.2 (upS_M h1 (by omega))
theorem upN_bef (hR:RibOk R) (hx:x≤R.L.toNat):(upN R 0 R.L.toNat).1.getD x 0=befD R x:=by
 have:=congrFun (upN_M hR (f:=0) (n:=R.L.toNat) (by omega)) x
 rw [befD_fw hR hx hx (Nat.le_refl _)] at this
 exact this
end
end Go.AM
namespace Go.AM
open Go.Proofs.Tryz
attribute [-go_sem] put_ne put_same
attribute [local go_sem ↓] put_if
set_option maxRecDepth 100000 in
set_option maxHeartbeats 4000000 in
theorem run_ruses {base:Nat} {h:Heap} {v:AVal} {R:Rib} {k:Int} (hA:RibAt h v R) (hR:RibOk R) :
  callL prog raw base (.fn 86 [] []) [v,.int .i64 k] h=some (.bool (decide (k ∈ usN R R.L.toNat)),h):=by
 have hAe:=fun H (e:Ext h H)=>hA.ext e
 obtain ⟨fv,wv,rfl,hF,hW⟩:=hA
 have o1:=hF.one
 have o2:=hW.one
 have hL:=hR.L
 obtain ⟨n,en⟩:=Int.eq_ofNat_of_zero_le (show 0≤R.L by omega)
 have en':R.L.toNat=n:=by omega
 obtain ⟨G,eG⟩:∃ G,G=h++[rrbB R.L fv wv]:=⟨_,rfl⟩
 have xG:Ext h G:=by rw [eG];exact .app .refl
 have g0:G[h.length]?=some (rrbB R.L fv wv):=by rw [eG];exact get_eq rfl
 have lG:G.length=h.length+1:=by rw [eG];simp
 obtain ⟨_,G1,e1,x1,u1,u2,rfl,oU1,oU2⟩:=run_up (base:=h.length) (h:=G) (f:=0) (by omega) (hAe G xG) hR (by omega)
 have l1:=x1.len
 have ou1:=oU1.one
 have ou2:=oU2.one
 obtain ⟨mv,G2,e2,x2,oM⟩:=run_rmade (base:=h.length) (h:=G1) (by omega) (hAe G1 (xG.trans x1)) hR
 have l2:=x2.len
 have omv:=oM.one
 rw [Nat.sub_zero] at oU1
 rw [Int.natCast_zero] at e1
 obtain ⟨hu,-⟩:=upN_ok hR (f:=0) (n:=R.L.toNat) (by omega)
 obtain ⟨P,eP⟩:∃ P,P=(upN R 0 R.L.toNat).1:=⟨_,rfl⟩
 have hPl:P.length=n+1:=by rw [eP,hu.l1,en']
 have hPx:∀ x,x≤n→P.getD x 0=befD R x:=fun x hx=>by rw [eP];exact upN_bef hR (by omega)
 have hPb:∀ x,0≤P.getD x 0∧P.getD x 0≤100 * (x:Int):=fun x=>by rw [eP];exact hu.b1 x
 have sP:Small P:=by rw [eP];exact hu.s1 (by omega)
 rw [← eP] at oU1
 obtain ⟨Q,eQ⟩:∃ Q,Q=lst (fun y=>valD R y) (R.L.toNat+1):=⟨_,rfl⟩
 have hQl:Q.length=n+1:=by rw [eQ,lst_len,en']
 have hQx:∀ x,x≤n→Q.getD x 0=valD R x:=fun x hx=>by rw [eQ];exact lst_get (by omega)
 have sQ:Small Q:=by rw [eQ];exact val_small hR (by omega)
 rw [← eQ] at oM
 have i1:=(own_ints oU1 sP).ext x2
 have i2:=own_ints oM sQ
 have g1:=x1.get g0
 have g2:=x2.get g1
 have xh2:=(xG.trans x1).trans x2
 unfold rrbB at eG g0 g1 g2
 refine callL_run func86 rfl rfl ?_
 have hsp:=@Nat.succ_ne_zero;repeat' (first|simp (disch:=first|exact dq|fail) only [go_sem,↓reduceIte,hsp,← eG,g0,e1,g1,e2]|refine WP_drw ?_|refine cnd_intro (fun hsp=>?_) fun hsp=>?_)
 refine WP_count [(4,4),(8,69)] 0 n (Nat.zero_le _) (fun _ x fr K=>fr 8=.int .i64 (x:Int)∧Ext G2 K∧∀ y,y<x→∀ c ∈ cutL R y,¬ (useB R (befD R y) c=true∧c.1.w=k)) ?_ ?_ ?_
 ·exact ⟨by (simp (disch:=first|exact dq|fail) only [go_sem,↓reduceIte,Int.natCast_zero];first|done|rfl),.refl,fun y hy=>by omega⟩
 ·rintro x fr K hx0 hx hAg ⟨r8,xK,hpre⟩
  have q1:=hAg 1 rfl
  have q2:=hAg 2 rfl
  have q5:=hAg 5 rfl
  have q7:=hAg 7 rfl
  try simp (disch:=first|exact dq|fail) only [go_sem,↓reduceIte] at q1 q2 q5 q7
  have hlt:((x:Int)<R.L)=True:=eq_true (by omega)
  have hxl:x<R.L.toNat:=by omega
  have g0K:=xK.get g2
  have xh:=xh2.trans xK
  have lK:=xK.len
  obtain ⟨lw,K2,e3,x3,oA⟩:=run_rall (base:=h.length) (h:=K) (x:=x) (by omega) (hAe K xh) hR hxl
  have olw:=oA.one
  have x2h:=xh.trans x3
  have hcl:=cutL_len (x:=x) hR
  have iP:=oA.rows (by rw [List.length_map];omega)
  have hlX:=rct_len iP
  rw [List.length_map] at hlX
  have j1:=i1.ext (xK.trans x3)
  have j2:=i2.ext (xK.trans x3)
  have a1:=adrI (i:=(x:Int)) (by omega) j1 (by omega)
  rw [Int.toNat_natCast] at a1
  have ldx:=loadI j1 (i:=x) (by omega)
  rw [hPx x (by omega)] at ldx
  have bP:=hPb x
  rw [hPx x (by omega)] at bP
  have a0:=adrI (i:=0) (by omega) j2 (by omega)
  have ldz:=loadI j2 (i:=0) (by omega)
  rw [hQx 0 (by omega)] at ldz
  rw [show (0:Int).toNat=0 from rfl] at a0
  have g02:=x3.get g0K
  have hsp:=@Nat.succ_ne_zero;repeat' (first|simp (disch:=first|exact dq|fail) only [go_sem,↓reduceIte,hsp,r8,q1,q2,q5,q7,g0K,hlt,e3]|refine WP_drw ?_|refine cnd_intro (fun hsp=>?_) fun hsp=>?_)
  refine WP_count [(4,4),(10,69)] 0 (cutL R x).length (Nat.zero_le _) (fun _ j fr X=>fr 10=.int .i64 (j:Int)∧X=K2∧∀ c ∈ (cutL R x).take j,¬ (useB R (befD R x) c=true∧c.1.w=k)) ?_ ?_ ?_
  ·exact ⟨by (simp (disch:=first|exact dq|fail) only [go_sem,↓reduceIte,Int.natCast_zero];first|done|rfl),rfl,by simp⟩
  ·rintro j fr2 X hj0 hj hA2 ⟨r10,rfl,hc0⟩
   have d1:=hA2 1 rfl
   have d2:=hA2 2 rfl
   have d5:=hA2 5 rfl
   have d7:=hA2 7 rfl
   have d8:=hA2 8 rfl
   have d9:=hA2 9 rfl
   try simp (disch:=first|exact dq|fail) only [go_sem,↓reduceIte,q1,q2,q5,q7] at d1 d2 d5 d7 d8 d9
   have d8:=hA2 8 rfl
   simp (disch:=first|exact dq|fail) only [go_sem,↓reduceIte,r8] at d8
   have hltj:((j:Int)<((cutL R x).length:Int))=True:=eq_true (by omega)
   obtain ⟨c,ec⟩:∃ c,c=(cutL R x)[j]:=⟨_,rfl⟩
   have hcj:(cutL R x)[j]?=some c:=by rw [ec];exact List.getElem?_eq_getElem hj
   have hcm:=List.mem_of_getElem? hcj
   obtain ⟨hb',hf',hw0,hw1,w,hw,ht⟩:=cutL_b hR hxl hcm
   have htb:=takL_b hR (hR.W w (List.mem_of_getElem? hw)) hxl ht
   have hjl:j<((cutL R x).map (·.1)).length:=by rw [List.length_map];exact hj
   have hjc:((cutL R x).map (·.1))[j]?=some c.1:=by rw [List.getElem?_map,hcj];rfl
   have aj:=rct_ad iP hjl
   have lj:=rct_ld iP hjc
   have f0:=rct_f0 iP hjl
   have c0:=rct_l0 iP hjc
   have hal:=fun base=>run_allowed (base:=base) (j:=c.1.j) (hAe X x2h) hR hw hxl
   rw [ht,show ((c.1.w.toNat:Nat):Int)=c.1.w by omega,← hf'] at hal
   unfold allV at hal
   obtain ⟨e,ee⟩:∃ e,e=c.2.1.toNat:=⟨_,rfl⟩
   have b3:=adrI (i:=c.2.1) (by omega) j2 (by omega)
   rw [← ee] at b3
   have f3:=loadI j2 (i:=e) (by omega)
   rw [hQx e (by omega)] at f3
   have hub:useB R (befD R x) c=decide (befD R x+c.2.2+valD R e=valD R 0):=by unfold useB;rw [← ee]
   have htk:(cutL R x).take (j+1)=(cutL R x).take j++[c]:=by rw [List.take_add_one,hcj];rfl
   have vb:=valD_bd hR (x:=e)
   obtain ⟨be,ebe⟩:∃ be,be=befD R x:=⟨_,rfl⟩
   obtain ⟨ve,eve⟩:∃ ve,ve=valD R e:=⟨_,rfl⟩
   obtain ⟨v0,ev0⟩:∃ v0,v0=valD R 0:=⟨_,rfl⟩
   rw [← ebe,← eve,← ev0] at hub
   rw [← ebe] at ldx bP
   rw [← eve] at f3 vb
   rw [← ev0] at ldz
   have hno:¬ (useB R (befD R x) c=true∧c.1.w=k)→∀ z ∈ (cutL R x).take (j+1),¬ (useB R (befD R x) z=true∧z.1.w=k):=fun hn z hz=>by
    rw [htk] at hz
    rcases List.mem_append.1 hz with q|q
    ·exact hc0 z q
    ·rw [List.mem_singleton.1 q];exact hn
   rw [← ebe] at hno
   by_cases c1:c.1.w=k
   ·have t1:(c.1.w=k)=True:=eq_true c1
    by_cases c2:be+c.2.2+ve=v0
    ·have t2:(be+c.2.2+ve=v0)=True:=eq_true c2
     have hbt:decide (k ∈ usN R R.L.toNat)=true:=decide_eq_true (usN_mem.2 ⟨x,hxl,c,hcm,by rw [← ebe,hub];exact decide_eq_true c2,c1⟩)
     rw [hbt]
     have hsp:=@Nat.succ_ne_zero;repeat' (first|simp (disch:=first|exact dq|fail) only [go_sem,↓reduceIte,hsp,r10,d8,d1,d2,d5,d7,d8,d9,q1,q2,q5,q7,hlX,hltj,g02,aj,lj,f0,c0,hal,t1,a1,ldx,b3,f3,a0,ldz,t2]|refine WP_drw ?_|refine cnd_intro (fun hsp=>?_) fun hsp=>?_)
     exact fB rfl x2h
    ·have t2:(be+c.2.2+ve=v0)=False:=eq_false c2
     have hsp:=@Nat.succ_ne_zero;repeat' (first|simp (disch:=first|exact dq|fail) only [go_sem,↓reduceIte,hsp,r10,d8,d1,d2,d5,d7,d8,d9,q1,q2,q5,q7,hlX,hltj,g02,aj,lj,f0,c0,hal,t1,a1,ldx,b3,f3,a0,ldz,t2]|refine WP_drw ?_|refine cnd_intro (fun hsp=>?_) fun hsp=>?_)
     exact ⟨agq,by omega,by rw [← ebe];exact hno (fun q=>by rw [hub] at q;exact c2 (of_decide_eq_true q.1))⟩
   ·have t1:(c.1.w=k)=False:=eq_false c1
    have hsp:=@Nat.succ_ne_zero;repeat' (first|simp (disch:=first|exact dq|fail) only [go_sem,↓reduceIte,hsp,r10,d8,d1,d2,d5,d7,d8,d9,q1,q2,q5,q7,hlX,hltj,g02,aj,lj,f0,c0,hal,t1]|refine WP_drw ?_|refine cnd_intro (fun hsp=>?_) fun hsp=>?_)
    exact ⟨agq,by omega,by rw [← ebe];exact hno (fun q=>c1 q.2)⟩
  ·rintro fr2 X hA2 ⟨r10,rfl,hc0⟩
   have d1:=hA2 1 rfl
   have d2:=hA2 2 rfl
   have d5:=hA2 5 rfl
   have d7:=hA2 7 rfl
   have d8:=hA2 8 rfl
   have d9:=hA2 9 rfl
   try simp (disch:=first|exact dq|fail) only [go_sem,↓reduceIte,q1,q2,q5,q7] at d1 d2 d5 d7 d8 d9
   have d8:=hA2 8 rfl
   simp (disch:=first|exact dq|fail) only [go_sem,↓reduceIte,r8] at d8
   have hltj:(((cutL R x).length:Int)<((cutL R x).length:Int))=False:=eq_false (by omega)
   rw [List.take_length] at hc0
   have hsp:=@Nat.succ_ne_zero;repeat' (first|simp (disch:=first|exact dq|fail) only [go_sem,↓reduceIte,hsp,r10,d8,d1,d2,d5,d7,d8,d9,q1,q2,q5,q7,hlX,hltj]|refine WP_drw ?_|refine cnd_intro (fun hsp=>?_) fun hsp=>?_)
   refine ⟨agq,by omega,xK.trans x3,fun y hy=>?_⟩
   by_cases e:y=x
   ·subst e;exact hc0
   ·exact hpre y (by omega)
 ·rintro fr K hAg ⟨r8,xK,hpre⟩
  have q1:=hAg 1 rfl
  have q2:=hAg 2 rfl
  have q5:=hAg 5 rfl
  have q7:=hAg 7 rfl
  try simp (disch:=first|exact dq|fail) only [go_sem,↓reduceIte] at q1 q2 q5 q7
  have hlt:((n:Int)<R.L)=False:=eq_false (by omega)
  have g0K:=xK.get g2
  have hbf:decide (k ∈ usN R R.L.toNat)=false:=decide_eq_false fun q=>by
   obtain ⟨x,hx,c,hc,q1,q2⟩:=usN_mem.1 q
   exact hpre x (by omega) c hc ⟨q1,q2⟩
  rw [hbf]
  have hsp:=@Nat.succ_ne_zero;repeat' (first|simp (disch:=first|exact dq|fail) only [go_sem,↓reduceIte,hsp,r8,q1,q2,q5,q7,g0K,hlt]|refine WP_drw ?_|refine cnd_intro (fun hsp=>?_) fun hsp=>?_)
  exact fB rfl (xh2.trans xK)
end Go.AM
namespace Go.AM
open Go.Proofs.Tryz
attribute [-go_sem] put_ne put_same
attribute [local go_sem ↓] put_if
def lssN (R:Rib) (k i:Nat):List Wnt:=(R.W.take i).eraseIdx k
theorem lssN_succ {R:Rib} {k i:Nat} {w:Wnt} (hw:R.W[i]?=some w):lssN R k (i+1)=if i=k then lssN R k i else lssN R k i++[w]:=by
 have hi:=(List.getElem?_eq_some_iff.1 hw).1
 have hl:(R.W.take i).length=i:=by rw [List.length_take];omega
 have e:R.W.take (i+1)=R.W.take i++[w]:=by rw [List.take_add_one,hw];rfl
 unfold lssN
 rw [e]
 by_cases c:i=k
 ·rw [if_pos c,← c,List.eraseIdx_append_of_length_le (by omega),hl,Nat.sub_self,List.eraseIdx_of_length_le (l:=R.W.take i) (by omega)]
  simp
 ·rw [if_neg c]
  by_cases d:k<i
  ·rw [List.eraseIdx_append_of_lt_length (by omega)]
  ·rw [List.eraseIdx_of_length_le (l:=R.W.take i) (by omega),List.eraseIdx_of_length_le (by rw [List.length_append,hl,List.length_singleton];omega)]
theorem lssN_len {R:Rib} {k i:Nat}:(lssN R k i).length≤i:=by
 unfold lssN
 exact Nat.le_trans (List.length_eraseIdx_le _ _) (by rw [List.length_take];omega)
set_option maxRecDepth 100000 in
set_option maxHeartbeats 4000000 in
theorem run_rneeds {base:Nat} {h:Heap} {v:AVal} {R:Rib} {k:Nat} (hA:RibAt h v R) (hR:RibOk R) :
  callL prog raw base (.fn 87 [] []) [v,.int .i64 (k:Int)] h=some (.bool (decide (valD (witR R k) 0<valD R 0)),h):=by
 have hAe:=fun H (e:Ext h H)=>hA.ext e
 obtain ⟨fv,wv,rfl,hF,hW⟩:=hA
 have o1:=hF.one
 have o2:=hW.one
 have hnW:=hR.nW
 obtain ⟨G0,eG0⟩:∃ G0,G0=h++[rrbB R.L fv wv]:=⟨_,rfl⟩
 have x0:Ext h G0:=by rw [eG0];exact .app .refl
 have g0:G0[h.length]?=some (rrbB R.L fv wv):=by rw [eG0];exact get_eq rfl
 have l0:G0.length=h.length+1:=by rw [eG0];simp
 obtain ⟨G,eG⟩:∃ G,G=G0++[rrbB R.L fv (.slice none 0 0)]:=⟨_,rfl⟩
 have xG:Ext G0 G:=by rw [eG];exact .app .refl
 have g2:G[G0.length]?=some (rrbB R.L fv (.slice none 0 0)):=by rw [eG];exact get_eq rfl
 have lG:G.length=h.length+2:=by rw [eG];simp [l0]
 unfold rrbB at eG0 eG
 have g0':=g0
 unfold rrbB at g0'
 refine callL_run func87 rfl rfl ?_
 have hsp:=@Nat.succ_ne_zero;repeat' (first|simp (disch:=first|exact dq|fail) only [go_sem,↓reduceIte,hsp,← eG0,g0',← eG]|refine WP_drw ?_|refine cnd_intro (fun hsp=>?_) fun hsp=>?_)
 refine WP_count [(6,35)] 0 R.W.length (Nat.zero_le _) (fun _ i fr K=>fr 6=.int .i64 (i:Int)∧Ext G0 K∧G.length≤K.length∧∃ w,K[G0.length]?=some (rrbB R.L fv w)∧Own encW 189 G.length K w (lssN R k i)) ?_ ?_ ?_
 ·exact ⟨by (simp (disch:=first|exact dq|fail) only [go_sem,↓reduceIte,Int.natCast_zero];first|done|rfl),xG,Nat.le_refl _,.slice none 0 0,g2,Own.nil⟩
 ·rintro i fr K hi0 hi hAg ⟨r6,xK,lK,w,gK,oW⟩
  have q1:=hAg 1 rfl
  have q2:=hAg 2 rfl
  have q4:=hAg 4 rfl
  have q5:=hAg 5 rfl
  try simp (disch:=first|exact dq|fail) only [go_sem,↓reduceIte] at q1 q2 q4 q5
  have hlt:((i:Int)<(R.W.length:Int))=True:=eq_true (by omega)
  have ow:=oW.one
  obtain ⟨r,er⟩:∃ r,r=R.W[i]:=⟨_,rfl⟩
  have hx:R.W[i]?=some r:=by rw [er];exact List.getElem?_eq_getElem hi
  have iW:=hW.ext (x0.trans xK)
  have hn:=rwn_len iW
  have ad:=rwn_ad iW hi
  have ld:=rwn_ld iW hx
  have g0K:=xK.get g0'
  have hll:=lssN_len (R:=R) (k:=k) (i:=i)
  have hsuc:=lssN_succ (k:=k) hx
  have gK':=gK
  unfold rrbB at gK'
  by_cases c1:i=k
  ·have t1:((i:Int)=(k:Int))=True:=eq_true (by omega)
   rw [if_pos c1] at hsuc
   have hsp:=@Nat.succ_ne_zero;repeat' (first|simp (disch:=first|exact dq|fail) only [go_sem,↓reduceIte,hsp,r6,q1,q2,q4,q5,g0K,hn,hlt,t1]|refine WP_drw ?_|refine cnd_intro (fun hsp=>?_) fun hsp=>?_)
   exact ⟨agq,by omega,xK,lK,w,gK',by rw [hsuc];exact oW⟩
  ·have t1:((i:Int)=(k:Int))=False:=eq_false (by omega)
   rw [if_neg c1] at hsuc
   obtain ⟨w',K2,ea,oW',lW,eW,oneW,kW⟩:=snocV (base:=h.length) (r:=r) oW (by omega) (by omega) (by omega)
   have gK5:=kW.box gK'
   have hsp:=@Nat.succ_ne_zero;repeat' (first|simp (disch:=first|exact dq|fail) only [go_sem,↓reduceIte,hsp,r6,q1,q2,q4,q5,g0K,hn,hlt,t1,gK',ad,ld,bsV1,ea,gK5]|refine WP_drw ?_|refine cnd_intro (fun hsp=>?_) fun hsp=>?_)
   exact ⟨agq,by omega,(eW G0 (by omega) xK).set (by omega),by omega,w',rfl,by rw [hsuc];exact oW'.setBox gK5⟩
 ·rintro fr K hAg ⟨r6,xK,lK,w,gK,oW⟩
  have q1:=hAg 1 rfl
  have q2:=hAg 2 rfl
  have q4:=hAg 4 rfl
  have q5:=hAg 5 rfl
  try simp (disch:=first|exact dq|fail) only [go_sem,↓reduceIte] at q1 q2 q4 q5
  have hlt:((R.W.length:Int)<(R.W.length:Int))=False:=eq_false (by omega)
  have ow:=oW.one
  have hn:=rwn_len (hW.ext (x0.trans xK))
  have g0K:=xK.get g0'
  have ewl:lssN R k R.W.length=(witR R k).W:=by unfold lssN witR;rw [List.take_length]
  have hll:=lssN_len (R:=R) (k:=k) (i:=R.W.length)
  have aL:RibAt K (.agg [.int .i64 R.L,fv,w]) (witR R k):=⟨fv,w,rfl,hF.ext (x0.trans xK),by rw [← ewl];exact oW.rows (by omega)⟩
  have he:=fun base=>run_earned (base:=base) (f:=0) (hAe K (x0.trans xK)) hR (by omega)
  have hf:=fun base=>run_earned (base:=base) (f:=0) aL (hR.wit k) (by omega)
  rw [Int.natCast_zero] at he hf
  unfold rrbB at gK
  have hsp:=@Nat.succ_ne_zero;repeat' (first|simp (disch:=first|exact dq|fail) only [go_sem,↓reduceIte,hsp,r6,q1,q2,q4,q5,g0K,hn,hlt,he,gK,hf]|refine WP_drw ?_|refine cnd_intro (fun hsp=>?_) fun hsp=>?_)
  exact fB rfl (x0.trans xK)
set_option maxRecDepth 100000 in
set_option maxHeartbeats 4000000 in
theorem stN49 {base:Nat} {l:List Oper} {s:St} {Q:AExit→St→Prop}:WP prog raw base (.region 4 l.toArray true) s Q=WPS prog raw base (.region 4 l.toArray true) s Q:=WP_stop
attribute [local go_sem ↓ 3000] stN49
theorem run_rraise {base:Nat} {h:Heap} {v:AVal} {R:Rib} {k:Nat} (hA:RibAt h v R) (hR:RibOk R) (hk:k<R.W.length) :
  callL prog raw base (.fn 88 [] []) [v,.int .i64 (k:Int)] h=some (match rseL R k with|none=>.tuple [.int .i64 0,.int .i64 6]|some p=>.tuple [.int .i64 p,.int .i64 0],h):=by
 have hAe:=fun H (e:Ext h H)=>hA.ext e
 obtain ⟨fv,wv,rfl,hF,hW⟩:=hA
 have o1:=hF.one
 have o2:=hW.one
 have hnW:=hR.nW
 have hwk:R.W[k]?=some R.W[k]:=List.getElem?_eq_getElem hk
 generalize R.W[k]=w at hwk
 have hwo:=hR.W w (List.mem_of_getElem? hwk)
 have hpr:=hwo.pr
 have rel:rseL R k=rseN R k (101-w.pr).toNat w.pr:=by unfold rseL prcW;rw [hwk]
 obtain ⟨Z,eZ⟩:∃ Z,Z=rseL R k:=⟨_,rfl⟩
 rw [← eZ]
 obtain ⟨G0,eG0⟩:∃ G0,G0=h++[rrbB R.L fv wv]:=⟨_,rfl⟩
 have x0:Ext h G0:=by rw [eG0];exact .app .refl
 have g0:G0[h.length]?=some (rrbB R.L fv wv):=by rw [eG0];exact get_eq rfl
 have l0:G0.length=h.length+1:=by rw [eG0];simp
 have iW:=hW.ext x0
 have a1:=rwn_ad iW hk
 have a2:=rwn_f1 iW hk
 have a3:=rwn_l1 iW hwk
 unfold rrbB at eG0
 have g0':=g0
 unfold rrbB at g0'
 obtain ⟨N,eN⟩:∃ N,N=(101-w.pr).toNat:=⟨_,rfl⟩
 obtain ⟨nw,enw⟩:∃ nw,nw=R.W.length:=⟨_,rfl⟩
 have hne:R.W ≠ []:=fun q=>by rw [q] at hk;simp at hk
 refine callL_run func88 rfl rfl ?_
 have hsp:=@Nat.succ_ne_zero;repeat' (first|simp (disch:=first|exact dq|fail) only [go_sem,↓reduceIte,hsp,← eG0,g0',a1,a2,a3]|refine WP_drw ?_|refine cnd_intro (fun hsp=>?_) fun hsp=>?_)
 refine WP_count [(4,36)] 0 N (Nat.zero_le _) (fun _ i fr H=>fr 6=.int .i64 (w.pr+(i:Int))∧Ext G0 H∧rseN R k (N-i) (w.pr+(i:Int))=Z) ?_ ?_ ?_
 ·exact ⟨by simp (disch:=first|exact dq|fail) only [go_sem,↓reduceIte];simp,.refl,by rw [Nat.sub_zero,eZ,rel,← eN];simp⟩
 ·rintro i fr K hi0 hi hAg ⟨r6,xK,hz⟩
  have q1:=hAg 1 rfl
  have q2:=hAg 2 rfl
  try simp (disch:=first|exact dq|fail) only [go_sem,↓reduceIte] at q1 q2
  obtain ⟨p,ep⟩:∃ p,p=w.pr+(i:Int):=⟨_,rfl⟩
  rw [← ep] at r6 hz
  have hp:0≤p∧p≤100:=by omega
  have hle:(p≤100)=True:=eq_true hp.2
  have lK:=xK.len
  have g0K:=xK.get g0'
  have xh:=x0.trans xK
  have iK:=hW.ext xh
  have hbe:∀ {lit:Bool},bsA prog lit K 121 0 []=some (.emp,K):=fun {lit}=>bs_emp Fc.el121
  have hap:=fun base=>app_empE (base:=base) iK hne encW_sc (by omega) Fc.el121
  obtain ⟨K1,eK1⟩:∃ K1,K1=K++[rowE encW 189 R.W 0]:=⟨_,rfl⟩
  rw [← eK1,← enw] at hap
  have y1:Ext K K1:=by rw [eK1];exact .app .refl
  have k1:K1.length=K.length+1:=by rw [eK1];simp
  have gr1:K1[K.length]?=some (rowE encW 189 R.W 0):=by rw [eK1];exact get_eq rfl
  obtain ⟨K2,eK2⟩:∃ K2,K2=K1++[rrbB R.L fv (.slice (some ⟨K.length,0,0⟩) nw nw)]:=⟨_,rfl⟩
  have y2:Ext K1 K2:=by rw [eK2];exact .app .refl
  have k2:K2.length=K.length+2:=by rw [eK2];simp [k1]
  have gr2:=y2.get gr1
  have gb2:K2[K1.length]?=some (rrbB R.L fv (.slice (some ⟨K.length,0,0⟩) nw nw)):=by rw [eK2];exact get_eq rfl
  have iR2:Rows encW K2 (.slice (some ⟨K.length,0,0⟩) nw nw) R.W:=Rows.own gr2 enw (by omega)
  have b1:=rwn_ad iR2 hk
  have b2:=rwn_f1 iR2 hk
  have st1:∀ (F:ABlk→Heap),stQ h.length K.length (some (rowE encW 189 R.W 0)) 0 (k * 5+1) [.int .i64 p] F=some (F (rowE encW 189 (R.W.set k (wPr w p)) 0)):=fun F =>
   stQ_cellE (E:=encW) (e:=189) (i:=k) (o:=1) (y:=wPr w p) (a:=.int .i64 p) (base:=h.length) (id:=K.length) (ver:=0) (K:=F) hwk (by decide) rfl rfl (by omega)
  obtain ⟨K3,eK3⟩:∃ K3,K3=K2.set K.length (rowE encW 189 (R.W.set k (wPr w p)) 0):=⟨_,rfl⟩
  have xK3:Ext K K3:=by rw [eK3];exact (y1.trans y2).set (Nat.le_refl _)
  have gr3:K3[K.length]?=some (rowE encW 189 (R.W.set k (wPr w p)) 0):=by rw [eK3,List.getElem?_set_self (by omega)]
  have gb3:K3[K1.length]?=some (rrbB R.L fv (.slice (some ⟨K.length,0,0⟩) nw nw)):=by rw [eK3,List.getElem?_set_ne (by omega)];exact gb2
  have ers:=prc_set (p:=p) hwk
  have hRp:=hR.prc (k:=k) hp
  have x3:=xh.trans xK3
  have hA3:RibAt K3 (.agg [.int .i64 R.L,fv,.slice (some ⟨K.length,0,0⟩) nw nw]) (prcR R k p):=by
   rw [ers]
   exact ⟨fv,_,rfl,hF.ext x3,Rows.own gr3 (by rw [List.length_set];exact enw) (by rw [List.length_set];omega)⟩
  have hus:=fun base=>run_ruses (base:=base) (k:=(k:Int)) hA3 hRp
  have hrs:rseN R k (N-i) p=if (k:Int) ∈ usdL (prcR R k p) then some p else rseN R k (N-(i+1)) (p+1):=by
   rw [show N-i=(N-(i+1))+1 by omega,rseN]
  have hlow:refsLow K.length fv:=hF.lowR xh
  unfold rrbB at eK2 gb2 gb3
  have hsp:=@Nat.succ_ne_zero;repeat' (first|simp (disch:=first|exact dq|fail) only [go_sem,↓reduceIte,hsp,r6,q1,q2,hle]|refine WP_drw ?_|refine cnd_intro (fun hsp=>?_) fun hsp=>?_)
  refine WPS_go ?_
  refine WP_loose [⟨1,3,18,⟨h.length,0,0⟩,.int .i64 R.L,10⟩,⟨3,32,20,⟨h.length,0,1⟩,fv,10⟩] (by kernel_rfl) (by kernel_rfl) ⟨refsLow_int,hlow,trivial⟩ fun KK hK=>?_
  have g0K1:=y1.get g0K
  have g0Kz:∀ z,(K1++[z])[h.length]?=_:=fun z=>get_app (T:=[z]) g0K1
  have g0K2:=y2.get g0K1
  iterate 11
   rw [TRS_cons]
   refine ⟨by first|(simp (disch:=first|exact dq|fail) only [go_sem,↓reduceIte,r6,q1,q2,g0K,hbe,hap,g0K1,g0Kz,← eK2,g0K2,ldsQ_cons,ldsQ_nil,grdQ_cons,grdQ_nil,if_true,Nat.reduceLeDiff];done)|exact trivial,?_⟩
   simp (disch:=first|exact dq|fail) only [go_sem,↓reduceIte,r6,q1,q2,g0K,hbe,hap,g0K1,g0Kz,← eK2,g0K2]
  rw [TRS_nil]
  refine ⟨by first|(simp (disch:=first|exact dq|fail) only [go_sem,↓reduceIte,r6,q1,q2,g0K,hbe,hap,g0K1,g0Kz,← eK2,g0K2,ldsQ_cons,ldsQ_nil,grdQ_cons,grdQ_nil,if_true,Nat.reduceLeDiff];done)|exact trivial,?_⟩
  subst hK
  by_cases c1:(k:Int) ∈ usN (prcR R k p) (prcR R k p).L.toNat
  ·rw [decide_eq_true c1] at hus
   rw [if_pos ((usdL_mem hRp).2 c1),hz] at hrs
   rw [hrs]
   have hsp:=@Nat.succ_ne_zero;repeat' (first|simp (disch:=first|exact dq|fail) only [go_sem,↓reduceIte,hsp,r6,q1,q2,gb2,gr2,st1,← eK3,gb3,hus]|refine WP_drw ?_|refine cnd_intro (fun hsp=>?_) fun hsp=>?_)
   exact fin_pl rfl rfl x3
  ·rw [decide_eq_false c1] at hus
   rw [if_neg (fun q=>c1 ((usdL_mem hRp).1 q)),hz] at hrs
   have hsp:=@Nat.succ_ne_zero;repeat' (first|simp (disch:=first|exact dq|fail) only [go_sem,↓reduceIte,hsp,r6,q1,q2,gb2,gr2,st1,← eK3,gb3,hus]|refine WP_drw ?_|refine cnd_intro (fun hsp=>?_) fun hsp=>?_)
   exact ⟨agq,by omega,xK.trans xK3,by rw [hrs,show w.pr+((i+1:Nat):Int)=p+1 by omega]⟩
 ·rintro fr K hAg ⟨r6,xK,hz⟩
  have q1:=hAg 1 rfl
  have q2:=hAg 2 rfl
  try simp (disch:=first|exact dq|fail) only [go_sem,↓reduceIte] at q1 q2
  have hle:(w.pr+(N:Int)≤100)=False:=eq_false (by omega)
  rw [Nat.sub_self,rseN] at hz
  rw [← hz]
  have hsp:=@Nat.succ_ne_zero;repeat' (first|simp (disch:=first|exact dq|fail) only [go_sem,↓reduceIte,hsp,r6,q1,q2,hle]|refine WP_drw ?_|refine cnd_intro (fun hsp=>?_) fun hsp=>?_)
  exact fin_pl rfl rfl (x0.trans xK)
end Go.AM
namespace Go.AM
open Go.Proofs.Tryz
attribute [-go_sem] put_ne put_same
attribute [local go_sem ↓] put_if
theorem app_two {b base:Nat} {H:Heap} {v w:AVal} {l m:List Int} {y:Int} (hO:Own encI 3 b H v l) (hO2:Own encI 3 b H w m) (hA:Asun v w) (hb:base≤b) (hbh:b≤H.length) (hsz:l.length+1<2147483648) :
  ∃ v' H',appendA prog base H 32 v (.vals [.int .i64 y])=some (v',H')∧Own encI 3 b H' v' (l++[y])∧Own encI 3 b H' w m∧H.length≤H'.length∧(∀ G,G.length≤b→Ext G H→Ext G H')∧One v'∧Asun v' w:=by
 have ea:=app_sn1 (P:=prog) (y:=y) (a:=.int .i64 y) (base:=base) (t:=32) hO rfl rfl Fc.el32 encI_sc hb hsz
 exact ⟨_,_,ea,hO.sn (m:=[y]) hbh (by simp),hO2.sn_oth hA,snH_len,fun G hG g=>hO.sn_ext hG g,snV_one,hO2.sn_asun hA⟩
def usP (R:Rib) (n:Nat):List Int:=(upto n).filter fun k=>decide (k ∈ usN R R.L.toNat)
theorem usP_succ {R:Rib} {n:Nat}:usP R (n+1)=usP R n++if (n:Int) ∈ usN R R.L.toNat then [(n:Int)] else []:=by
 unfold usP
 rw [upto_succ,List.filter_append,List.filter_cons,List.filter_nil]
 by_cases c:(n:Int) ∈ usN R R.L.toNat
 ·rw [decide_eq_true c,if_pos rfl,if_pos c]
 ·rw [decide_eq_false c,if_neg (by simp),if_neg c]
theorem usP_len {R:Rib} {n:Nat}:(usP R n).length≤n:=by
 unfold usP
 exact Nat.le_trans (List.length_filter_le _ _) (by rw [upto_len];exact Nat.le_refl _)
theorem filt_small {n:Nat} {p:Int→Bool} (h:n≤1000):Small ((upto n).filter p) :=
 ⟨Nat.lt_of_le_of_lt (Nat.le_trans (List.length_filter_le _ _) (by rw [upto_len];exact Nat.le_refl n)) (by omega),fun y hy=>by have:=upto_mem.1 (List.mem_filter.1 hy).1;omega⟩
set_option maxRecDepth 100000 in
set_option maxHeartbeats 8000000 in
theorem run_CutWants {base:Nat} {h:Heap} {v0 v1:AVal} (hA0:RibN 1048576 h v0) (hi0:IntV h v1) :
  callL prog raw base (.fn 28 [] []) [v0,v1] h=some (.bool true,h):=by
 obtain ⟨R,hA,-,-⟩:=hA0
 obtain ⟨want,rfl⟩:=hi0
 have hAA:=hA
 obtain ⟨fv,wv,rfl,hF,hW⟩:=hAA
 have o1:=hF.one
 have o2:=hW.one
 obtain ⟨G0,eG0⟩:∃ G0,G0=h++[ribB R.L fv wv]:=⟨_,rfl⟩
 have x0:Ext h G0:=by rw [eG0];exact .app .refl
 have g0:G0[h.length]?=some (ribB R.L fv wv):=by rw [eG0];exact get_eq rfl
 have lG0:G0.length=h.length+1:=by rw [eG0];simp
 have hg:=fun base=>run_wide (base:=base) (m:=14) (hA.ext x0)
 have haw:=fun base=>run_awake (base:=base) (h:=G0)
 unfold ribB at eG0
 have g0':=g0
 unfold ribB at g0'
 refine callL_run func28 rfl rfl ?_
 rcases Bool.eq_false_or_eq_true (decide (20<R.F.length ∨ 12<R.W.length) || (decide (14<R.L) && decide (R.L≤60))) with cg|cg
 ·rw [cg] at hg
  have hsp:=@Nat.succ_ne_zero;repeat' (first|simp (disch:=first|exact dq|fail) only [go_sem,↓reduceIte,hsp,← eG0,g0',hg,haw]|refine WP_drw ?_|refine cnd_intro (fun hsp=>?_) fun hsp=>?_)
  exact fB rfl x0
 ·rw [cg] at hg
  simp only [Bool.or_eq_false_iff,Bool.and_eq_false_iff,decide_eq_false_iff_not] at cg
  obtain ⟨_,G1,e1,x1,fw,ww,rfl,oF,oW⟩:=run_own (base:=h.length) (h:=G0) (by omega) (hA.ext x0) (by omega) (by omega)
  have l1:=x1.len
  obtain ⟨_,G2,e2,x2,aT,fw2,ww2,rfl,of2,ow2⟩:=run_theirs (base:=h.length) (h:=G1) (by omega) (hA.ext (x0.trans x1)) (by omega) (by omega)
  have l2:=x2.len
  have ofw:=oF.one
  have oww:=oW.one
  obtain ⟨G4,eG4⟩:∃ G4,G4=G2++[ribB R.L fw ww]++[rrbB R.L fw2 ww2]:=⟨_,rfl⟩
  have x4:Ext G2 G4:=by rw [eG4];exact .app (.app .refl)
  have l4:G4.length=G2.length+2:=by rw [eG4];simp
  have gO4:G4[G2.length]?=some (ribB R.L fw ww):=by rw [eG4];exact get_app (get_eq rfl)
  have gT4:G4[G2.length+1]?=some (rrbB R.L fw2 ww2):=by rw [eG4];exact get_eq (by simp)
  have x14:=x2.trans x4
  have xh4:Ext h G4:=(x0.trans x1).trans x14
  have aO4:RibAt G4 (.agg [.int .i64 R.L,fw,ww]) R:=⟨fw,ww,rfl,(ownE_ints oF ⟨by omega,hF.1.2⟩).ext x14,(oW.rows (by omega)).ext x14⟩
  have aT4:RibAt G4 (.agg [.int .i64 R.L,fw2,ww2]) R:=aT.ext x4
  have gc4:G4[h.length]?=some (ribB R.L fv wv):=(x1.trans x14).get g0
  have hck:=fun base=>run_rcheck (base:=base) aT4 (by omega) (by omega)
  have g01:=x1.get g0'
  unfold ribB rrbB at eG4
  unfold rrbB at gT4
  have gO4':=gO4
  unfold ribB at gO4'
  have gc4':=gc4
  unfold ribB at gc4'
  by_cases c:chkR R=0
  ·have hok:=chkR_iff.1 c
   have hL:=hok.L
   have hnW:=hok.nW
   rw [c] at hck
   have hn4:=(hW.ext xh4).len (P:=prog) Fc.el33
   have hsp:=@Nat.succ_ne_zero;repeat' (first|simp (disch:=first|exact dq|fail) only [go_sem,↓reduceIte,hsp,← eG0,g0',hg,e1,g01,e2,← eG4,gT4,hck,eq_self,gc4',hn4]|refine WP_drw ?_|refine cnd_intro (fun hsp=>?_) fun hsp=>?_)
   refine WP_count [(9,10),(12,12),(34,51)] 0 R.W.length (Nat.zero_le _) (fun _ k fr K=>fr 34=.int .i64 (k:Int)∧Ext G4 K∧∃ w1 w2,fr 9=w1∧fr 10=w2∧Own encI 3 G4.length K w1 (usP R k)∧Own encI 3 G4.length K w2 (nedN R k)∧Asun w1 w2) ?_ ?_ ?_
   ·exact ⟨by (simp (disch:=first|exact dq|fail) only [go_sem,↓reduceIte,Int.natCast_zero];first|done|rfl),.refl,.slice none 0 0,.slice none 0 0,by (simp (disch:=first|exact dq|fail) only [go_sem,↓reduceIte,Int.natCast_zero];first|done|rfl),by (simp (disch:=first|exact dq|fail) only [go_sem,↓reduceIte,Int.natCast_zero];first|done|rfl),Own.nil,Own.nil,Asun.nil⟩
   ·rintro k fr K hk0 hk hAg ⟨r34,xK,w1,w2,r9,r10,oW1,oW2,hAs⟩
    have q1:=hAg 1 rfl
    have q2:=hAg 2 rfl
    have q4:=hAg 4 rfl
    have q5:=hAg 5 rfl
    have q6:=hAg 6 rfl
    have q7:=hAg 7 rfl
    have q8:=hAg 8 rfl
    have q11:=hAg 11 rfl
    have q33:=hAg 33 rfl
    try simp (disch:=first|exact dq|fail) only [go_sem,↓reduceIte] at q1 q2 q4 q5 q6 q7 q8 q11 q33
    have hlt:((k:Int)<(R.W.length:Int))=True:=eq_true (by omega)
    have ow1:=oW1.one
    have ow2:=oW2.one
    have lK:=xK.len
    have gTK:=xK.get gT4
    have hu:=fun base=>run_ruses (base:=base) (k:=(k:Int)) (aT4.ext xK) hok
    have s1:=usP_succ (R:=R) (n:=k)
    have s2:=nedN_succ (R:=R) (n:=k)
    have n1:=usP_len (R:=R) (n:=k)
    have n2:=nedN_len (R:=R) (n:=k)
    by_cases d1:(k:Int) ∈ usN R R.L.toNat
    ·rw [decide_eq_true d1] at hu
     rw [if_pos d1] at s1
     obtain ⟨v1,K1,ea,pW1,pW2,k1,eW1,one1,hAs1⟩:=app_two (base:=h.length) (y:=(k:Int)) oW1 oW2 hAs (by omega) (by omega) (by omega)
     rw [← s1] at pW1
     have xK1:=eW1 G4 (Nat.le_refl _) xK
     have gTK1:=xK1.get gT4
     have hn:=fun base=>run_rneeds (base:=base) (k:=k) (aT4.ext xK1) hok
     by_cases d2:valD (witR R k) 0<valD R 0
     ·rw [decide_eq_true d2] at hn
      rw [if_pos d2] at s2
      obtain ⟨v2,K2,eb,rW2,rW1,k2,eW2,one2,hAs2⟩:=app_two (base:=h.length) (y:=(k:Int)) pW2 pW1 hAs1.symm (by omega) (by omega) (by omega)
      rw [← s2] at rW2
      have hsp:=@Nat.succ_ne_zero;repeat' (first|simp (disch:=first|exact dq|fail) only [go_sem,↓reduceIte,hsp,r34,r9,r10,q1,q2,q4,q5,q6,q7,q8,q11,q33,hlt,gTK,hu,ea,gTK1,hn,eb]|refine WP_drw ?_|refine cnd_intro (fun hsp=>?_) fun hsp=>?_)
      exact ⟨agq,by omega,eW2 G4 (Nat.le_refl _) xK1,_,_,rfl,rfl,rW1,rW2,hAs2.symm⟩
     ·rw [decide_eq_false d2] at hn
      rw [if_neg d2,List.append_nil] at s2
      have hsp:=@Nat.succ_ne_zero;repeat' (first|simp (disch:=first|exact dq|fail) only [go_sem,↓reduceIte,hsp,r34,r9,r10,q1,q2,q4,q5,q6,q7,q8,q11,q33,hlt,gTK,hu,ea,gTK1,hn]|refine WP_drw ?_|refine cnd_intro (fun hsp=>?_) fun hsp=>?_)
      exact ⟨agq,by omega,xK1,_,_,rfl,rfl,pW1,by rw [s2];exact pW2,hAs1⟩
    ·rw [decide_eq_false d1] at hu
     rw [if_neg d1,List.append_nil] at s1
     have hn:=fun base=>run_rneeds (base:=base) (k:=k) (aT4.ext xK) hok
     by_cases d2:valD (witR R k) 0<valD R 0
     ·rw [decide_eq_true d2] at hn
      rw [if_pos d2] at s2
      obtain ⟨v2,K2,eb,rW2,rW1,k2,eW2,one2,hAs2⟩:=app_two (base:=h.length) (y:=(k:Int)) oW2 oW1 hAs.symm (by omega) (by omega) (by omega)
      rw [← s2] at rW2
      have hsp:=@Nat.succ_ne_zero;repeat' (first|simp (disch:=first|exact dq|fail) only [go_sem,↓reduceIte,hsp,r34,r9,r10,q1,q2,q4,q5,q6,q7,q8,q11,q33,hlt,gTK,hu,hn,eb]|refine WP_drw ?_|refine cnd_intro (fun hsp=>?_) fun hsp=>?_)
      exact ⟨agq,by omega,eW2 G4 (Nat.le_refl _) xK,_,_,rfl,rfl,by rw [s1];exact rW1,rW2,hAs2.symm⟩
     ·rw [decide_eq_false d2] at hn
      rw [if_neg d2,List.append_nil] at s2
      have hsp:=@Nat.succ_ne_zero;repeat' (first|simp (disch:=first|exact dq|fail) only [go_sem,↓reduceIte,hsp,r34,r9,r10,q1,q2,q4,q5,q6,q7,q8,q11,q33,hlt,gTK,hu,hn]|refine WP_drw ?_|refine cnd_intro (fun hsp=>?_) fun hsp=>?_)
      exact ⟨agq,by omega,xK,_,_,rfl,rfl,by rw [s1];exact oW1,by rw [s2];exact oW2,hAs⟩
   ·rintro fr Z hAg ⟨r34,xZ,w1,w2,r9,r10,oW1,oW2,hAs⟩
    have q1:=hAg 1 rfl
    have q2:=hAg 2 rfl
    have q4:=hAg 4 rfl
    have q5:=hAg 5 rfl
    have q6:=hAg 6 rfl
    have q7:=hAg 7 rfl
    have q8:=hAg 8 rfl
    have q11:=hAg 11 rfl
    have q33:=hAg 33 rfl
    try simp (disch:=first|exact dq|fail) only [go_sem,↓reduceIte] at q1 q2 q4 q5 q6 q7 q8 q11 q33
    have hlt:((R.W.length:Int)<(R.W.length:Int))=False:=eq_false (by omega)
    have ow1:=oW1.one
    have ow2:=oW2.one
    have gTZ:=xZ.get gT4
    have gcZ:=xZ.get gc4'
    have hnZ:=(hW.ext (xh4.trans xZ)).len (P:=prog) Fc.el33
    have eu:usdE R=usP R R.W.length:=by unfold usdE;rw [if_neg (fun q=>q c)];rfl
    have ev:nedE R=nedN R R.W.length:=by unfold nedE;rw [if_neg (fun q=>q c)];rfl
    have su:Small (usP R R.W.length):=filt_small (by omega)
    have sv:Small (nedN R R.W.length):=filt_small (by omega)
    have hd1:=own_ints oW1 su
    have hd2:=own_ints oW2 sv
    by_cases ct:0≤want∧want≤(R.W.length:Int)-1
    ·have t2:(want ≥ 0)=True:=eq_true ct.1
     have t3:(want<(R.W.length:Int))=True:=eq_true (by omega)
     obtain ⟨k,ek⟩:=Int.eq_ofNat_of_zero_le ct.1
     have hrr:=fun base=>run_rraise (base:=base) (k:=k) (aT4.ext xZ) hok (by omega)
     rw [← ek] at hrr
     have er0:rseE R want=match rseL R k with|none=>(0,6)|some p=>(p,0):=by
      unfold rseE;rw [if_neg (fun q=>q c),if_neg (fun q=>q ct),ek,Int.toNat_natCast];cases rseL R k<;>rfl
     cases qr:rseL R k with
     | none =>
      rw [qr] at hrr er0
      have er:rseE R want=(0,6):=er0
      have lZ:=xZ.len
      have aO:=aO4.ext xZ
      have gO:=xZ.get gO4
      have gc:=xZ.get gc4
      obtain ⟨_,Z1,c1,z1,u1,rfl,oU⟩:=run_Used (base:=h.length) (h:=Z) (by omega) aO (by omega)
      have m1:=z1.len
      have ou1:=oU.one
      obtain ⟨_,Z2,c2,z2,u2,rfl,oN⟩:=run_Needed (base:=h.length) (h:=Z1) (by omega) (aO.ext z1) (by omega)
      have ou2:=oN.one
      have z12:=z1.trans z2
      have c3:=fun base=>run_Raise (base:=base) (want:=want) (aO.ext z12) (by omega)
      rw [eu] at oU
      rw [ev] at oN
      rw [er] at c3
      have jq1:=fun base=>run_eqI (base:=base) ((own_ints oU su).ext z2) (hd1.ext z12)
      have jq2:=fun base=>run_eqI (base:=base) (own_ints oN sv) (hd2.ext z12)
      rw [decide_eq_true rfl] at jq1 jq2
      have jq3:=fun base=>run_same (base:=base) (aO.ext z12) (hA.ext (xh4.trans (xZ.trans z12))) (by omega)
      have jq5:=fun base=>run_awake (base:=base) (h:=Z2)
      have gO1:=z1.get gO
      have gO2:=z2.get gO1
      have gc2:=z12.get gc
      unfold ribB at gO gO1 gO2 gc2
      have hsp:=@Nat.succ_ne_zero;repeat' (first|simp (disch:=first|exact dq|fail) only [go_sem,↓reduceIte,hsp,r34,r9,r10,q1,q2,q4,q5,q6,q7,q8,q11,q33,hlt,t2,gcZ,hnZ,t3,gTZ,hrr,gO,c1,gO1,c2,gO2,c3,decide_true,jq1,jq2,jq3,jq5,gc2,c]|refine WP_drw ?_|refine cnd_intro (fun hsp=>?_) fun hsp=>?_)
      exact fB rfl (xh4.trans (xZ.trans z12))
     | some p =>
      rw [qr] at hrr er0
      have er:rseE R want=(p,0):=er0
      have lZ:=xZ.len
      have aO:=aO4.ext xZ
      have gO:=xZ.get gO4
      have gc:=xZ.get gc4
      obtain ⟨_,Z1,c1,z1,u1,rfl,oU⟩:=run_Used (base:=h.length) (h:=Z) (by omega) aO (by omega)
      have m1:=z1.len
      have ou1:=oU.one
      obtain ⟨_,Z2,c2,z2,u2,rfl,oN⟩:=run_Needed (base:=h.length) (h:=Z1) (by omega) (aO.ext z1) (by omega)
      have ou2:=oN.one
      have z12:=z1.trans z2
      have c3:=fun base=>run_Raise (base:=base) (want:=want) (aO.ext z12) (by omega)
      rw [eu] at oU
      rw [ev] at oN
      rw [er] at c3
      have jq1:=fun base=>run_eqI (base:=base) ((own_ints oU su).ext z2) (hd1.ext z12)
      have jq2:=fun base=>run_eqI (base:=base) (own_ints oN sv) (hd2.ext z12)
      rw [decide_eq_true rfl] at jq1 jq2
      have jq3:=fun base=>run_same (base:=base) (aO.ext z12) (hA.ext (xh4.trans (xZ.trans z12))) (by omega)
      have jq5:=fun base=>run_awake (base:=base) (h:=Z2)
      have gO1:=z1.get gO
      have gO2:=z2.get gO1
      have gc2:=z12.get gc
      unfold ribB at gO gO1 gO2 gc2
      have hsp:=@Nat.succ_ne_zero;repeat' (first|simp (disch:=first|exact dq|fail) only [go_sem,↓reduceIte,hsp,r34,r9,r10,q1,q2,q4,q5,q6,q7,q8,q11,q33,hlt,t2,gcZ,hnZ,t3,gTZ,hrr,gO,c1,gO1,c2,gO2,c3,decide_true,jq1,jq2,jq3,jq5,gc2,c]|refine WP_drw ?_|refine cnd_intro (fun hsp=>?_) fun hsp=>?_)
      exact fB rfl (xh4.trans (xZ.trans z12))
    ·have er:rseE R want=(0,1):=by unfold rseE;rw [if_neg (fun q=>q c),if_pos ct]
     by_cases cn:want ≥ 0
     ·have t2:(want ≥ 0)=True:=eq_true cn
      have t3:(want<(R.W.length:Int))=False:=eq_false (by omega)
      have lZ:=xZ.len
      have aO:=aO4.ext xZ
      have gO:=xZ.get gO4
      have gc:=xZ.get gc4
      obtain ⟨_,Z1,c1,z1,u1,rfl,oU⟩:=run_Used (base:=h.length) (h:=Z) (by omega) aO (by omega)
      have m1:=z1.len
      have ou1:=oU.one
      obtain ⟨_,Z2,c2,z2,u2,rfl,oN⟩:=run_Needed (base:=h.length) (h:=Z1) (by omega) (aO.ext z1) (by omega)
      have ou2:=oN.one
      have z12:=z1.trans z2
      have c3:=fun base=>run_Raise (base:=base) (want:=want) (aO.ext z12) (by omega)
      rw [eu] at oU
      rw [ev] at oN
      rw [er] at c3
      have jq1:=fun base=>run_eqI (base:=base) ((own_ints oU su).ext z2) (hd1.ext z12)
      have jq2:=fun base=>run_eqI (base:=base) (own_ints oN sv) (hd2.ext z12)
      rw [decide_eq_true rfl] at jq1 jq2
      have jq3:=fun base=>run_same (base:=base) (aO.ext z12) (hA.ext (xh4.trans (xZ.trans z12))) (by omega)
      have jq5:=fun base=>run_awake (base:=base) (h:=Z2)
      have gO1:=z1.get gO
      have gO2:=z2.get gO1
      have gc2:=z12.get gc
      unfold ribB at gO gO1 gO2 gc2
      have hsp:=@Nat.succ_ne_zero;repeat' (first|simp (disch:=first|exact dq|fail) only [go_sem,↓reduceIte,hsp,r34,r9,r10,q1,q2,q4,q5,q6,q7,q8,q11,q33,hlt,t2,gcZ,hnZ,t3,gO,c1,gO1,c2,gO2,c3,decide_true,jq1,jq2,jq3,jq5,gc2,c]|refine WP_drw ?_|refine cnd_intro (fun hsp=>?_) fun hsp=>?_)
      exact fB rfl (xh4.trans (xZ.trans z12))
     ·have t2:(want ≥ 0)=False:=eq_false cn
      have lZ:=xZ.len
      have aO:=aO4.ext xZ
      have gO:=xZ.get gO4
      have gc:=xZ.get gc4
      obtain ⟨_,Z1,c1,z1,u1,rfl,oU⟩:=run_Used (base:=h.length) (h:=Z) (by omega) aO (by omega)
      have m1:=z1.len
      have ou1:=oU.one
      obtain ⟨_,Z2,c2,z2,u2,rfl,oN⟩:=run_Needed (base:=h.length) (h:=Z1) (by omega) (aO.ext z1) (by omega)
      have ou2:=oN.one
      have z12:=z1.trans z2
      have c3:=fun base=>run_Raise (base:=base) (want:=want) (aO.ext z12) (by omega)
      rw [eu] at oU
      rw [ev] at oN
      rw [er] at c3
      have jq1:=fun base=>run_eqI (base:=base) ((own_ints oU su).ext z2) (hd1.ext z12)
      have jq2:=fun base=>run_eqI (base:=base) (own_ints oN sv) (hd2.ext z12)
      rw [decide_eq_true rfl] at jq1 jq2
      have jq3:=fun base=>run_same (base:=base) (aO.ext z12) (hA.ext (xh4.trans (xZ.trans z12))) (by omega)
      have jq5:=fun base=>run_awake (base:=base) (h:=Z2)
      have gO1:=z1.get gO
      have gO2:=z2.get gO1
      have gc2:=z12.get gc
      unfold ribB at gO gO1 gO2 gc2
      have hsp:=@Nat.succ_ne_zero;repeat' (first|simp (disch:=first|exact dq|fail) only [go_sem,↓reduceIte,hsp,r34,r9,r10,q1,q2,q4,q5,q6,q7,q8,q11,q33,hlt,t2,gO,c1,gO1,c2,gO2,c3,decide_true,jq1,jq2,jq3,jq5,gc2,c]|refine WP_drw ?_|refine cnd_intro (fun hsp=>?_) fun hsp=>?_)
      exact fB rfl (xh4.trans (xZ.trans z12))
  ·have tu:(chkR R=0)=False:=eq_false c
   obtain ⟨Z,eZ⟩:∃ Z,Z=G4:=⟨_,rfl⟩
   have xZ:Ext G4 Z:=by rw [eZ];exact .refl
   rw [← eZ] at eG4 gT4 hck
   have eu:usdE R=[]:=by unfold usdE;rw [if_pos c]
   have ev:nedE R=[]:=by unfold nedE;rw [if_pos c]
   have su:Small ([]:List Int):=⟨by simp,by simp⟩
   have sv:Small ([]:List Int):=⟨by simp,by simp⟩
   have hd1:Ints Z (.slice none 0 0) []:=ints_nil
   have hd2:Ints Z (.slice none 0 0) []:=ints_nil
   have er:rseE R want=(0,chkR R):=by unfold rseE;rw [if_pos c]
   have lZ:=xZ.len
   have aO:=aO4.ext xZ
   have gO:=xZ.get gO4
   have gc:=xZ.get gc4
   obtain ⟨_,Z1,c1,z1,u1,rfl,oU⟩:=run_Used (base:=h.length) (h:=Z) (by omega) aO (by omega)
   have m1:=z1.len
   have ou1:=oU.one
   obtain ⟨_,Z2,c2,z2,u2,rfl,oN⟩:=run_Needed (base:=h.length) (h:=Z1) (by omega) (aO.ext z1) (by omega)
   have ou2:=oN.one
   have z12:=z1.trans z2
   have c3:=fun base=>run_Raise (base:=base) (want:=want) (aO.ext z12) (by omega)
   rw [eu] at oU
   rw [ev] at oN
   rw [er] at c3
   have jq1:=fun base=>run_eqI (base:=base) ((own_ints oU su).ext z2) (hd1.ext z12)
   have jq2:=fun base=>run_eqI (base:=base) (own_ints oN sv) (hd2.ext z12)
   rw [decide_eq_true rfl] at jq1 jq2
   have jq3:=fun base=>run_same (base:=base) (aO.ext z12) (hA.ext (xh4.trans (xZ.trans z12))) (by omega)
   have jq5:=fun base=>run_awake (base:=base) (h:=Z2)
   have gO1:=z1.get gO
   have gO2:=z2.get gO1
   have gc2:=z12.get gc
   unfold ribB at gO gO1 gO2 gc2
   have hsp:=@Nat.succ_ne_zero;repeat' (first|simp (disch:=first|exact dq|fail) only [go_sem,↓reduceIte,hsp,← eG0,g0',hg,e1,g01,e2,← eG4,gT4,hck,eq_self,tu,gO,c1,gO1,c2,gO2,c3,decide_true,jq1,jq2,jq3,jq5,gc2]|refine WP_drw ?_|refine cnd_intro (fun hsp=>?_) fun hsp=>?_)
   exact fB rfl (xh4.trans (xZ.trans z12))
end Go.AM
