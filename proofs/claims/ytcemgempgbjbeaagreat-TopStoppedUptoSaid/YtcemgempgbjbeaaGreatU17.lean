/-
  Contracts: in how many ways breaks that are let explain each set of sights (the walk).
-/
import Derived.Test.YtcemgempgbjbeaaGreatU16
set_option linter.unusedSimpArgs false
set_option linter.unusedVariables false
namespace Go.AM
namespace F4
open Go.Proofs.Tryz
attribute [-go_sem] put_ne put_same
attribute [local go_sem ↓] put_if
theorem stE21 {base:Nat} {l:List Oper} {s:St} {Q:AExit→St→Prop}:WP prog raw base (.region 9 l.toArray false) s Q=WPS prog raw base (.region 9 l.toArray false) s Q:=WP_stop
attribute [local go_sem ↓ 3000] stE21
theorem stE21b {base:Nat} {l:List Oper} {s:St} {Q:AExit→St→Prop}:WP prog raw base (.region 17 l.toArray true) s Q=WPS prog raw base (.region 17 l.toArray true) s Q:=WP_stop
attribute [local go_sem ↓ 3000] stE21b
set_option maxHeartbeats 4000000 in
theorem run_ways {base:Nat} {h:Heap} {v g:AVal} {L:Lom} {bad:List Int} {ms:List (List Bool)} {f:Brk→Nat→Bool} (hb:base≤h.length) (hD:DeskAt h v L bad ms) (hc:chkM L=0) (hbl:bad.length≤10) (hbi:∀ i ∈ bad,0≤i∧i<(L.ss.length:Int)) (hrl:∀ p ∈ L.ps,p.rib.length≤1000) (hg:One g)
  (hf:∀ base H b x,Ext h H→base≤H.length→(0≤b.1∧b.1<(L.ps.length:Int))→x<2 ^ bad.length→callL prog raw base g [.agg (mdC b x)] H=some (.bool (f b x),H)) :
  Ret prog raw base (.fn 175 [] []) [v,.agg [g]] h (fun w H=>Ext h H∧WaysAt h.length H w (wayA L bad ms f)):=by
 obtain ⟨k1,k2,k3,k4,k5,k6⟩:=chkM_ok hc
 obtain ⟨did,mid,pv,sv,bv,rfl,g1,g2,g3,g4,g5,g6,g7⟩:=id hD
 rw [deskB] at g1
 obtain ⟨n,en⟩:∃ n,n=2 ^ bad.length:=⟨_,rfl⟩
 have hn0:0<n:=by rw [en];exact Nat.two_pow_pos _
 have hn1:n≤2 ^ 10:=by rw [en];exact Nat.pow_le_pow_right (by decide) hbl
 have hsh:=shlN (t:=3) (k:=bad.length) (by omega)
 rw [← en] at hsh
 have lg1:=lt_of_get g1
 have hlB:∀ {A:Heap},lenOpA prog (h++A) 35 bv=some (.int .i64 (bad.length:Int)):=fun {A}=>lenI g4.app
 have hmk:∀ {h:Heap},_:=fun {h}=>make_full (P:=prog) (h:=h) Fc.el297 hn0 (by omega)
 have hrep:repCells [.int .i64 0,.slice none 0 0] n=flat encW (List.replicate n ⟨0,.slice none 0 0⟩):=rep_flat (E:=encW) (x:=⟨0,.slice none 0 0⟩) n
 rw [hrep] at hmk
 have hlP:∀ {a b c:ABlk},lenOpA prog (h++[a]++[b]++[c]) 59 pv=some (.int .i64 (L.ps.length:Int)):=fun {a b c}=>(g2.ext (.app (.app (.app .refl)))).len
 obtain ⟨vs0,evs0⟩:∃ vs0:List WyV,vs0=(List.replicate n ⟨0,.slice none 0 0⟩).set 0 ⟨1,.slice none 0 0⟩:=⟨_,rfl⟩
 have hst0:∀ {K:ABlk→Heap},stQ base (h.length+1) (some ⟨.cells (flat encW (List.replicate n ⟨0,.slice none 0 0⟩)) 217 true false,0⟩) 0 0 [.int .i64 1] K=some (K (wyB vs0)):=fun {K}=>by
  have q:=(stW (K:=K) (i:=0) (base:=base) (N:=h.length+1) (vs:=List.replicate n ⟨0,.slice none 0 0⟩) (w:=⟨0,.slice none 0 0⟩) (u:=⟨1,.slice none 0 0⟩) (by omega) (by rw [List.getElem?_replicate,if_pos hn0]) ⟨rfl,rfl,rfl⟩ ⟨rfl,rfl,rfl⟩).1 rfl
  rw [evs0]
  exact q
 obtain ⟨h1,eh1⟩:∃ h1,h1=h++[⟨.cells [g] 221 false false,0⟩]:=⟨_,rfl⟩
 have xh1:Ext h h1:=by rw [eh1];exact .app .refl
 have hl1:h1.length=h.length+1:=by rw [eh1];simp
 have hfb:h1[h.length]?=some ⟨.cells [g] 221 false false,0⟩:=by rw [eh1];simp
 refine ret_raw func175 rfl (by kernel_rfl) ?_
 have hsp:=@Nat.succ_ne_zero;repeat' (first|simp (disch:=first|exact dq|fail) only [go_sem,↓reduceIte,hsp,g1,hlB,hsh,hmk,hlP,hst0]|refine WP_drw ?_|refine cnd_intro (fun hsp=>?_) fun hsp=>?_)
 refine WP_count [(6,11),(28,35),(37,96)] 0 L.ps.length (Nat.zero_le _) (fun _ p fr h'=>fr 28=.int .i64 (p:Int)∧Ext h1 h'∧∃ nid vs,h'[h.length+1+1]?=some (slB nid n)∧h'[nid]?=some (wyB vs)∧RelW h1.length h' [] vs (wayN L bad ms f p)) ?_ ?_ ?_
 ·refine ⟨by (simp (disch:=first|exact dq|fail) only [go_sem,↓reduceIte,Int.natCast_zero];first|done|rfl),by rw [eh1];exact .app (.app .refl),h.length+1,vs0,?_,by simp,?_⟩
  ·rw [List.getElem?_append_right (by simp)];simp [slB]
  refine ⟨by rw [evs0,wayN_len];simp [en],fun i x w q1 q2=>?_⟩
  rw [evs0,List.getElem?_set] at q1
  rw [wayN,List.getElem?_set] at q2
  by_cases e:0=i
  ·rw [if_pos e] at q1 q2
   split at q1
   ·split at q2
    ·cases q1;cases q2
     exact ⟨rfl,Own.nil,fun r n c q=>by cases q⟩
    ·cases q2
   ·cases q1
  ·rw [if_neg e,List.getElem?_replicate] at q1 q2
   split at q1
   ·split at q2
    ·cases q1;cases q2
     exact ⟨rfl,Own.nil,fun r n c q=>by cases q⟩
    ·cases q2
   ·cases q1
 ·rintro p fr H hp0 hp hA ⟨r28,xH,nid,vs,c1,c2,c3⟩
  have p0:=hA 0 rfl
  have p3:=hA 3 rfl
  have p4:=hA 4 rfl
  have p5:=hA 5 rfl
  have p27:=hA 27 rfl
  try simp (disch:=first|exact dq|fail) only [go_sem,↓reduceIte] at p0 p3 p4 p5 p27
  have hlt:((p:Int)<(L.ps.length:Int))=True:=eq_true (by omega)
  have xh:Ext h H:=xh1.trans xH
  have hHl:=xH.len
  rw [hl1] at hHl
  have hvn:vs.length=n:=by rw [c3.1,wayN_len,en]
  have hRv:Rows encW H (.slice (some ⟨nid,0,0⟩) n n) vs:=Rows.own c2 hvn.symm (by omega)
  have hcl:=run_cloneW (base:=base) hRv (fun q=>by rw [q] at hvn;simp at hvn;omega) (by omega)
  rw [hvn] at hcl
  have c1':=c1
  rw [slB] at c1'
  have hbr:=run_breaks (base:=base) (h:=H++[wyB vs]++[slB H.length n]) (k:=p) (by simp;omega) (hD.ext (.app (.app xh))) k3.2 hp
  simp only [slB,wyB,List.length_append,List.length_cons,List.length_nil,Nat.zero_add] at hbr hcl
  have hsp:=@Nat.succ_ne_zero;repeat' (first|simp (disch:=first|exact dq|fail) only [go_sem,↓reduceIte,hsp,r28,p0,p3,p4,p5,p27,hlt,c1',hcl,hbr]|refine WP_drw ?_|refine cnd_intro (fun hsp=>?_) fun hsp=>?_)
  refine WP_rest fun F G eF eG=>?_
  have kF3:=congrFun eF 3
  have kF4:=congrFun eF 4
  have kF5:=congrFun eF 5
  have kF7:=congrFun eF 7
  have kF27:=congrFun eF 27
  try simp (disch:=first|exact dq|fail) only [go_sem,↓reduceIte,p3,p4,p5,p27] at kF3 kF4 kF5 kF7 kF27
  have lG:=congrArg List.length eG
  try simp (disch:=first|exact dq|fail) only [go_sem,↓reduceIte] at lG
  have kF28:=congrFun eF 28;simp (disch:=first|exact dq|fail) only [go_sem,↓reduceIte,r28] at kF28
  have eF35:=congrFun eF 35;simp (disch:=first|exact dq|fail) only [go_sem,↓reduceIte] at eF35
  have aF:Agree [(6,11),(28,35),(37,96)] F fr:=by rw [eF];exact agq
  clear eF
  obtain ⟨N,eN⟩:∃ N,N=H.length:=⟨_,rfl⟩
  have hGl:G.length=N+5:=by rw [eG,eN];simp
  have xG:Ext H G:=by rw [eG];exact .app (.app (.app (.app (.app .refl))))
  obtain ⟨now,enow⟩:∃ now,now=wayN L bad ms f p:=⟨_,rfl⟩
  have hnl:now.length=n:=by rw [enow,wayN_len,en]
  have htn:tot now≤145 ^ 6:=by rw [enow];exact Nat.le_trans (wayN_tot (by omega) p) (Nat.pow_le_pow_right (by decide) (by omega))
  have hshn:shortW p now:=by rw [enow];exact wayN_short p
  rw [← enow] at c3
  obtain ⟨mds,emds⟩:∃ mds,mds=made L bad ms p:=⟨_,rfl⟩
  have hml:mds.length≤144:=by rw [emds];exact made_len (by omega)
  have hmb:∀ q ∈ mds,Below n q.2:=by rw [emds,en];exact made_below
  have hW0:WI h1 (.ptr (some ⟨did,0,0⟩)) p (freeB (ms.getD p [])) (h.length+1+1) nid N n vs now now G:=by
   have ln:=lt_of_get c2
   have lc:=lt_of_get c1
   have c4:RelW h1.length G [N,N+5] vs now:=(((c3.more (i:=N+5) (by omega)).more (i:=N) (by omega)).ext xG)
   refine ⟨by omega,xH.trans xG,⟨?_,?_,?_⟩,xG.get c1,xG.get c2,?_,c4,vs,?_,c4⟩
   ·rw [eG,eN];simp
   ·rw [eG,eN];simp
   ·rw [eG,eN];simp
   ·rw [eG,eN];simp [slB]
   ·rw [eG,eN];simp [wyB]
  rw [← eN] at kF7 eF35
  clear eG lG
  refine WP_range (f:=240) (a:=[]) (c:=[.ptr (some ⟨N+2,0,0⟩),.ptr (some ⟨N+4,0,0⟩),.ptr (some ⟨N+3,0,0⟩)]) (by rw [ev_tmp,eF35]) (N:=mds.length) (xs:=fun j=>[.agg (mdC (mds.getD j (brk0,0)).1 (mds.getD j (brk0,0)).2)])
   (fun j H2=>WI h1 (.ptr (some ⟨did,0,0⟩)) p (freeB (ms.getD p [])) (h.length+1+1) nid N n vs now (stepJ f now mds j) H2) (fun _ _=>False) ?_ (fun j=>rfl) (fun j H2 T x=>x.ext (.app .refl)) (fun j H2 b x=>by rw [hGl];exact x.set5) (fun e H2 b x=>x) (hW0.ext (.app .refl)) ?_ ?_ (fun e H2 _ x=>x.elim)
  ·rw [emds]
   refine yields_breaks (v:=.ptr (some ⟨did,0,0⟩)) hc hp hbl hbi hrl fun j H2 x=>?_
   have q:=x.2.1.len
   exact ⟨by omega,x.2.2.1,hD.ext (xh1.trans x.2.1)⟩
  ·rintro j H2 B1 B2 hj hW hlen hB1
   rw [hGl] at hlen hB1 ⊢
   obtain ⟨⟨b,x⟩,ebx⟩:∃ bx:Brk × Nat,bx=mds.getD j (brk0,0):=⟨_,rfl⟩
   rw [← ebx]
   simp only [mdC]
   have hH2:=lt_of_get hB1
   have hbH:base≤H2.length:=by omega
   have hsp:=@Nat.succ_ne_zero;repeat' (first|simp (disch:=first|exact dq|fail) only [go_sem,↓reduceIte,hsp,kF3,kF4,kF5,kF7,kF27,kF28]|refine WP_drw ?_|refine cnd_intro (fun hsp=>?_) fun hsp=>?_)
   refine ⟨hB1,?_⟩
   refine WPS_rest fun A K eA eK=>?_
   rw [WP_region]
   have kA3:=congrFun eA 3
   have kA4:=congrFun eA 4
   have kA5:=congrFun eA 5
   have kA7:=congrFun eA 7
   have kA8:=congrFun eA 8
   have kA27:=congrFun eA 27
   try simp (disch:=first|exact dq|fail) only [go_sem,↓reduceIte,kF3,kF4,kF5,kF7,kF27] at kA3 kA4 kA5 kA7 kA8 kA27
   have lK:=congrArg List.length eK
   try simp (disch:=first|exact dq|fail) only [go_sem,↓reduceIte] at lK
   clear eA lK
   have hK:WI h1 (.ptr (some ⟨did,0,0⟩)) p (freeB (ms.getD p [])) (h.length+1+1) nid N n vs now (stepJ f now mds j) K:=by
    rw [eK]
    first|exact (hW.ext (.app .refl)).set5|exact (hW.set5).ext (.app .refl)
   have hKb:K[N+5]?=some B2:=by rw [eK];exact get_app (by rw [List.getElem?_set_self hH2])
   have hKm:K[H2.length]?=some (mdB b x):=by rw [eK,List.getElem?_append_right (by simp)];simp [mdB,mdC]
   have hKk:∀ (i:Nat) (y:ABlk),N+5+1≤i→H2[i]?=some y→K[i]?=some y:=fun i y hi hy=>by rw [eK];exact get_app (by rw [get_set_ne (by omega)];exact hy)
   have hKl:H2.length+1≤K.length:=by rw [eK];simp
   clear eK
   have hjm:(b,x) ∈ mds:=by rw [ebx];exact List.mem_of_getElem? (getD_some hj)
   have hbx:Below n x:=hmb _ hjm
   have hx2:x<n:=by have:=hbx 0 hn0;simpa using this
   have hbb:0≤b.1∧b.1<(L.ps.length:Int):=by
    rw [emds] at hjm
    obtain ⟨b',hb',e'⟩:=List.mem_map.1 hjm
    obtain ⟨n',d',_,_,rfl⟩:=brkL_mem.1 hb'
    cases e'
    exact ⟨by show (0:Int)≤(p:Int);omega,by show (p:Int)<_;omega⟩
   have hfl:=fun base hq=>hf base K b x (xh1.trans hK.2.1) hq hbb (by rw [← en];exact hx2)
   have d1:=hK.2.1.get hfb
   have d2:=hKm
   rw [mdB,mdC] at d2
   rw [mdC] at hfl
   have hst:stepJ f now mds (j+1)=stepM f now (stepJ f now mds j) (b,x):=by rw [stepJ,← ebx]
   rw [hst]
   unfold stepM
   have hsj:shortW (p+1) (stepJ f now mds j):=stepJ_short hshn j
   have htj:=stepJ_tot (f:=f) (now:=now) (l:=mds) (by rw [hnl];exact hmb) j (by omega)
   have hjl:=stepJ_len (f:=f) (now:=now) (l:=mds) j
   cases hfv:f b x with
   | false =>
    simp only [hfv] at hfl
    have hsp:=@Nat.succ_ne_zero;repeat' (first|simp (disch:=first|exact dq|fail) only [go_sem,↓reduceIte,hsp,kA3,kA4,kA5,kA7,kA8,kA27,d1,d2,hfl]|refine WP_drw ?_|refine cnd_intro (fun hsp=>?_) fun hsp=>?_)
    exact ⟨hKb,hKk,.inl hK⟩
   | true =>
    simp only [hfv] at hfl
    have d3:=hK.2.2.2.1
    rw [slB] at d3
    have hsp:=@Nat.succ_ne_zero;repeat' (first|simp (disch:=first|exact dq|fail) only [go_sem,↓reduceIte,hsp,kA3,kA4,kA5,kA7,kA8,kA27,d1,d2,hfl,d3]|refine WP_drw ?_|refine cnd_intro (fun hsp=>?_) fun hsp=>?_)
    refine WP_count [(9,11),(44,94)] 0 n (Nat.zero_le _) (fun _ s fr h'=>fr 44=.int .i64 (s:Int)∧WI h1 (.ptr (some ⟨did,0,0⟩)) p (freeB (ms.getD p [])) (h.length+1+1) nid N n vs now (stepN now b x (stepJ f now mds j) s) h'∧h'[N+5]?=some B2∧h'[H2.length]?=some (mdB b x)∧(∀ (i:Nat) (y:ABlk),N+5+1≤i→H2[i]?=some y→h'[i]?=some y)) ?_ ?_ ?_
    ·exact ⟨by (simp (disch:=first|exact dq|fail) only [go_sem,↓reduceIte,Int.natCast_zero];first|done|rfl),hK,hKb,hKm,hKk⟩
    ·rintro s fr4 H4 hs0 hs hA4 ⟨r44,hW4,h4b,h4m,h4k⟩
     have B0:=hA4 0 rfl
     have B3:=hA4 3 rfl
     have B4:=hA4 4 rfl
     have B5:=hA4 5 rfl
     have B7:=hA4 7 rfl
     have B8:=hA4 8 rfl
     have B27:=hA4 27 rfl
     have B28:=hA4 28 rfl
     have B42:=hA4 42 rfl
     have B43:=hA4 43 rfl
     try simp (disch:=first|exact dq|fail) only [go_sem,↓reduceIte,kA3,kA4,kA5,kA7,kA8,kA27] at B0 B3 B4 B5 B7 B8 B27 B28 B42 B43
     have hlt4:((s:Int)<(n:Int))=True:=eq_true (by omega)
     obtain ⟨nx,enx⟩:∃ nx,nx=stepN now b x (stepJ f now mds j) s:=⟨_,rfl⟩
     have hst2:stepN now b x (stepJ f now mds j) (s+1)=stepS now b x nx s:=by rw [stepN,enx]
     rw [hst2]
     have hnxl:nx.length=n:=by rw [enx,stepN_len,hjl,hnl]
     have hnxt:tot nx≤146 * 145 ^ 6:=by
      have q1:=stepN_tot (b:=b) (x:=x) hjl (by rw [hnl];exact hbx) s (by omega)
      have q2:=tot_take_le (l:=now) s
      have q3:(j+1) * tot now≤145 * 145 ^ 6:=Nat.mul_le_mul (by omega) htn
      rw [enx]
      omega
     have hnxs:shortW (p+1) nx:=by rw [enx];exact stepN_short hshn hsj s
     rw [← enx] at hW4
     obtain ⟨⟨b1,b2,b3⟩,c0,_,c3,c4,c5,c6,vs2,c7,c8⟩:=id hW4
     obtain ⟨wv,w1,w2,w3,w4,w5⟩:=c6.get (i:=s) (by omega)
     have hls:=shortW_get (s:=s) hshn
     have l4:=lt_of_get c4
     have ldw:=ldWA w1 w5
     rw [← c4] at ldw
     rw [w2] at ldw
     have lH4:=c0.len
     have hbH4:base≤H4.length:=by omega
     have lm4:=lt_of_get h4m
     have g4m:∀ {Z:Heap},(H4++Z)[H2.length]?=some (mdB b x):=fun {Z}=>get_app h4m
     simp only [mdB,mdC] at g4m
     unfold stepS
     by_cases z0:(now.getD s wy0).1=0
     ·have t0:(((now.getD s wy0).1:Int)=0)=True:=eq_true (by omega)
      rw [if_pos z0]
      have hsp:=@Nat.succ_ne_zero;repeat' (first|simp (disch:=first|exact dq|fail) only [go_sem,↓reduceIte,hsp,r44,B0,B3,B4,B5,B7,B8,B27,B28,B42,B43,hlt4,ldw,t0]|refine WP_drw ?_|refine cnd_intro (fun hsp=>?_) fun hsp=>?_)
      exact ⟨agq,by omega,hW4.ext (.app .refl),h4b,h4m,fun i y hi hy=>get_app (h4k i y hi hy)⟩
     ·have t0:(((now.getD s wy0).1:Int)=0)=False:=eq_false (by omega)
      rw [if_neg z0]
      obtain ⟨ix,eix⟩:∃ ix,ix=s ||| x:=⟨_,rfl⟩
      have hix:ix<n:=by rw [eix];exact hbx s (by omega)
      have hor:=orN (t:=3) (a:=s) (b:=x) (by omega) (by omega)
      rw [← eix] at hor ⊢
      obtain ⟨xv,x1,x2,x3,x4,x5⟩:=c8.get (i:=ix) (by omega)
      have hlx:=shortW_get (s:=ix) hnxs
      have ldx:=(ldW x1 x5).1
      have ldx2:=(ldW x1 x5).2
      rw [← c7,x2] at ldx
      rw [← c7] at ldx2
      have l7:=lt_of_get c7
      have l51:=lt_of_get c5
      rw [slB] at c5
      have ht1:=tot_get (l:=nx) (i:=ix)
      have ht2:=tot_get (l:=now) (i:=s)
      have hb1:(nx.getD ix wy0).1+(now.getD s wy0).1<2 ^ 62:=by omega
      have hwl:∀ {Z:ABlk},lenOpA prog (H4++[Z]) 116 wv.v=some (.int .i64 ((now.getD s wy0).2.length:Int)):=fun {Z}=>own_len w3.app Fc.el116 (by omega)
      have hxl:∀ {Z:ABlk},lenOpA prog (H4++[Z]) 116 xv.v=some (.int .i64 ((nx.getD ix wy0).2.length:Int)):=fun {Z}=>own_len x3.app Fc.el116 (by omega)
      by_cases z1:(nx.getD ix wy0).1=0
      ·have t1:(((nx.getD ix wy0).1:Int)=0)=True:=eq_true (by omega)
       rw [if_pos (.inl z1)]
       obtain ⟨z,H5,ez,xz,oz⟩:=run_cloneB (base:=base) (h:=H4++[⟨.cells [.int .i64 ((now.getD s wy0).1:Int),wv.v] 217 false false,0⟩]) w3.app (by omega)
       have g5m:∀ {Z:Heap},(H5++Z)[H2.length]?=some (mdB b x):=fun {Z}=>get_app (xz.get (get_app h4m))
       have g5m':=g5m (Z:=[])
       rw [List.append_nil] at g5m'
       have l5m:=lt_of_get g5m'
       simp only [mdB,mdC] at g5m g5m'
       obtain ⟨v',H6,ea,oV,hle,hE,hV1⟩:=(oz.app (T:=[rowE encB 67 [b] 0])).appendR (x:=.slice (some ⟨H5.length,0,0⟩) 1 1) (m:=[b]) (base:=base) (t:=116) (Rows.own (get_eq rfl) rfl (by simp)) Fc.el116 encB_sc (by simp;omega) (by have:=xz.len;simp at this ⊢;omega) (by simp) (by have q:[b].length=1:=rfl;omega)
       have x46:Ext H4 H6:=hE H4 (by simp) (((Ext.app .refl).trans xz).app)
       have hst3:∀ {Z:ABlk→Heap},stQ base N H6[N]? 0 (ix * 2+1) [v'] Z=some (Z (wyB (vs2.set ix ⟨xv.many,v'⟩))):=fun {Z}=>by
        rw [x46.get c7]
        exact (stW (u:=⟨xv.many,v'⟩) (by omega) x1 x5 hV1).2 rfl
       have hsp:=@Nat.succ_ne_zero;repeat' (first|simp (disch:=first|exact dq|fail) only [go_sem,↓reduceIte,hsp,r44,B0,B3,B4,B5,B7,B8,B27,B28,B42,B43,hlt4,ldw,t0,g4m,hor,c5,ldx,t1,ez,g5m',bsB,ea,hst3]|refine WP_drw ?_|refine cnd_intro (fun hsp=>?_) fun hsp=>?_)
       obtain ⟨l3,el3⟩:∃ l3,l3=(now.getD s wy0).2++[b]:=⟨_,rfl⟩
       rw [← el3]
       rw [← el3] at oV
       have tW:=(hW4.ext x46).put ((c8.ext x46).upd (i:=ix) (y:=⟨xv.many,v'⟩) (w:=((nx.getD ix wy0).1,l3)) x2 (oV.low (by have:=hW4.1.1;simp only [List.length_append];omega)) (oV.off (X:=[N,N+5]) (fun i hi=>by simp at hi ⊢;omega)))
       have tb:(H6.set N (wyB (vs2.set ix ⟨xv.many,v'⟩)))[N+5]?=some B2:=by rw [get_set_ne (by omega)];exact x46.get h4b
       have tm:(H6.set N (wyB (vs2.set ix ⟨xv.many,v'⟩)))[H2.length]?=some (mdB b x):=by rw [get_set_ne (by omega)];exact x46.get h4m
       have tk:∀ (i:Nat) (y:ABlk),N+5+1≤i→H2[i]?=some y→(H6.set N (wyB (vs2.set ix ⟨xv.many,v'⟩)))[i]?=some y:=fun i y hi hy=>by rw [get_set_ne (by omega)];exact x46.get (h4k i y hi hy)
       have tw:(H6.set N (wyB (vs2.set ix ⟨xv.many,v'⟩)))[H4.length]?=some ⟨.cells [.int .i64 ((now.getD s wy0).1:Int),wv.v] 217 false false,0⟩:=by
        rw [get_set_ne (by omega)]
        exact (hE (H4++[⟨.cells [.int .i64 ((now.getD s wy0).1:Int),wv.v] 217 false false,0⟩]) (Nat.le_refl _) xz.app).get (by simp)
       have tl:H4.length≤(H6.set N (wyB (vs2.set ix ⟨xv.many,v'⟩))).length:=by rw [List.length_set];exact x46.len
       refine WPS_rest fun C H7 eC eH7=>?_
       refine WP_drw ?_
       have kC0:=congrFun eC 0
       have kC3:=congrFun eC 3
       have kC4:=congrFun eC 4
       have kC5:=congrFun eC 5
       have kC7:=congrFun eC 7
       have kC8:=congrFun eC 8
       have kC10:=congrFun eC 10
       have kC11:=congrFun eC 11
       have kC27:=congrFun eC 27
       have kC28:=congrFun eC 28
       have kC42:=congrFun eC 42
       have kC43:=congrFun eC 43
       have kC44:=congrFun eC 44
       try simp (disch:=first|exact dq|fail) only [go_sem,↓reduceIte,B0,B3,B4,B5,B7,B8,B27,B28,B42,B43] at kC0 kC3 kC4 kC5 kC7 kC8 kC10 kC11 kC27 kC28 kC42 kC43 kC44
       have lH7:=congrArg List.length eH7
       try simp (disch:=first|exact dq|fail) only [go_sem,↓reduceIte] at lH7
       have aC:Agree [(9,11),(44,94)] C fr4:=by rw [eC];exact agq
       clear eC lH7
       have hW7:=tW
       have h7b:=tb
       have h7m:=tm
       have h7k:=tk
       have h7w:=tw
       have h7l:=tl
       rw [← eH7] at hW7 h7b h7m h7k h7w h7l
       clear eH7 tW tb tm tk tw tl
       have ⟨_,s0,_,s3,s4,s5,s6,vs3,s7,s8⟩:=hW7
       obtain ⟨yv,y1,y2,y3,y4,y5⟩:=s8.get (i:=ix) (by rw [List.length_set,hnxl];exact hix)
       have e3:(nx.set ix ((nx.getD ix wy0).1,l3)).getD ix wy0=((nx.getD ix wy0).1,l3):=by rw [List.getD_eq_getElem?_getD,List.getElem?_set_self (by rw [hnxl];exact hix)];rfl
       rw [e3] at y2 y3
       have q1:=(ldW y1 y5).1
       rw [← s7] at q1
       have q2:∀ {Z:ABlk→Heap},stQ base N H7[N]? 0 (ix * 2) [.int .i64 (((nx.getD ix wy0).1+(now.getD s wy0).1:Nat):Int)] Z=some (Z (wyB (vs3.set ix ⟨(((nx.getD ix wy0).1+(now.getD s wy0).1:Nat):Int),yv.v⟩))):=fun {Z}=>by
        rw [s7]
        exact (stW (u:=⟨(((nx.getD ix wy0).1+(now.getD s wy0).1:Nat):Int),yv.v⟩) (by omega) y1 y5 y5).1 rfl
       rw [y2] at q1
       have hadd:binA prog .add 3 (.int .i64 ((nx.getD ix wy0).1:Int)) (.int .i64 ((now.getD s wy0).1:Int))=some (.int .i64 (((nx.getD ix wy0).1+(now.getD s wy0).1:Nat):Int)):=by
        rw [bin_add,wrap64 (by omega) (by omega),Int.natCast_add]
       have hsp:=@Nat.succ_ne_zero;repeat' (first|simp (disch:=first|exact dq|fail) only [go_sem,↓reduceIte,hsp,kC0,kC3,kC4,kC5,kC7,kC8,kC10,kC11,kC27,kC28,kC42,kC43,kC44,r44,q1,q2,hadd,h7w]|refine WP_drw ?_|refine cnd_intro (fun hsp=>?_) fun hsp=>?_)
       have fW:=hW7.put (s8.upd (i:=ix) (y:=⟨(((nx.getD ix wy0).1+(now.getD s wy0).1:Nat):Int),yv.v⟩) (w:=((nx.getD ix wy0).1+(now.getD s wy0).1,l3)) rfl y3 y4)
       rw [List.set_set] at fW
       refine ⟨agq,by omega,fW,?_,?_,?_⟩
       ·first|exact h7b|(rw [get_set_ne (by omega)];exact h7b)
       ·first|exact h7m|(rw [get_set_ne (by omega)];exact h7m)
       ·intro i y hi hy
        rw [get_set_ne (by omega)];exact h7k i y hi hy
      ·have t1:(((nx.getD ix wy0).1:Int)=0)=False:=eq_false (by omega)
       by_cases z2:(now.getD s wy0).2.length+1<(nx.getD ix wy0).2.length
       ·have t2:(((now.getD s wy0).2.length:Int)+1<((nx.getD ix wy0).2.length:Int))=True:=eq_true (by omega)
        rw [if_pos (.inr z2)]
        obtain ⟨z,H5,ez,xz,oz⟩:=run_cloneB (base:=base) (h:=H4++[⟨.cells [.int .i64 ((now.getD s wy0).1:Int),wv.v] 217 false false,0⟩]) w3.app (by omega)
        have g5m:∀ {Z:Heap},(H5++Z)[H2.length]?=some (mdB b x):=fun {Z}=>get_app (xz.get (get_app h4m))
        have g5m':=g5m (Z:=[])
        rw [List.append_nil] at g5m'
        have l5m:=lt_of_get g5m'
        simp only [mdB,mdC] at g5m g5m'
        obtain ⟨v',H6,ea,oV,hle,hE,hV1⟩:=(oz.app (T:=[rowE encB 67 [b] 0])).appendR (x:=.slice (some ⟨H5.length,0,0⟩) 1 1) (m:=[b]) (base:=base) (t:=116) (Rows.own (get_eq rfl) rfl (by simp)) Fc.el116 encB_sc (by simp;omega) (by have:=xz.len;simp at this ⊢;omega) (by simp) (by have q:[b].length=1:=rfl;omega)
        have x46:Ext H4 H6:=hE H4 (by simp) (((Ext.app .refl).trans xz).app)
        have hst3:∀ {Z:ABlk→Heap},stQ base N H6[N]? 0 (ix * 2+1) [v'] Z=some (Z (wyB (vs2.set ix ⟨xv.many,v'⟩))):=fun {Z}=>by
         rw [x46.get c7]
         exact (stW (u:=⟨xv.many,v'⟩) (by omega) x1 x5 hV1).2 rfl
        have hsp:=@Nat.succ_ne_zero;repeat' (first|simp (disch:=first|exact dq|fail) only [go_sem,↓reduceIte,hsp,r44,B0,B3,B4,B5,B7,B8,B27,B28,B42,B43,hlt4,ldw,t0,g4m,hor,c5,ldx,ldx2,t1,hwl,hxl,t2,ez,g5m',bsB,ea,hst3]|refine WP_drw ?_|refine cnd_intro (fun hsp=>?_) fun hsp=>?_)
        obtain ⟨l3,el3⟩:∃ l3,l3=(now.getD s wy0).2++[b]:=⟨_,rfl⟩
        rw [← el3]
        rw [← el3] at oV
        have tW:=(hW4.ext x46).put ((c8.ext x46).upd (i:=ix) (y:=⟨xv.many,v'⟩) (w:=((nx.getD ix wy0).1,l3)) x2 (oV.low (by have:=hW4.1.1;simp only [List.length_append];omega)) (oV.off (X:=[N,N+5]) (fun i hi=>by simp at hi ⊢;omega)))
        have tb:(H6.set N (wyB (vs2.set ix ⟨xv.many,v'⟩)))[N+5]?=some B2:=by rw [get_set_ne (by omega)];exact x46.get h4b
        have tm:(H6.set N (wyB (vs2.set ix ⟨xv.many,v'⟩)))[H2.length]?=some (mdB b x):=by rw [get_set_ne (by omega)];exact x46.get h4m
        have tk:∀ (i:Nat) (y:ABlk),N+5+1≤i→H2[i]?=some y→(H6.set N (wyB (vs2.set ix ⟨xv.many,v'⟩)))[i]?=some y:=fun i y hi hy=>by rw [get_set_ne (by omega)];exact x46.get (h4k i y hi hy)
        have tw:(H6.set N (wyB (vs2.set ix ⟨xv.many,v'⟩)))[H4.length]?=some ⟨.cells [.int .i64 ((now.getD s wy0).1:Int),wv.v] 217 false false,0⟩:=by
         rw [get_set_ne (by omega)]
         exact (hE (H4++[⟨.cells [.int .i64 ((now.getD s wy0).1:Int),wv.v] 217 false false,0⟩]) (Nat.le_refl _) xz.app).get (by simp)
        have tl:H4.length≤(H6.set N (wyB (vs2.set ix ⟨xv.many,v'⟩))).length:=by rw [List.length_set];exact x46.len
        refine WPS_rest fun C H7 eC eH7=>?_
        refine WP_drw ?_
        have kC0:=congrFun eC 0
        have kC3:=congrFun eC 3
        have kC4:=congrFun eC 4
        have kC5:=congrFun eC 5
        have kC7:=congrFun eC 7
        have kC8:=congrFun eC 8
        have kC10:=congrFun eC 10
        have kC11:=congrFun eC 11
        have kC27:=congrFun eC 27
        have kC28:=congrFun eC 28
        have kC42:=congrFun eC 42
        have kC43:=congrFun eC 43
        have kC44:=congrFun eC 44
        try simp (disch:=first|exact dq|fail) only [go_sem,↓reduceIte,B0,B3,B4,B5,B7,B8,B27,B28,B42,B43] at kC0 kC3 kC4 kC5 kC7 kC8 kC10 kC11 kC27 kC28 kC42 kC43 kC44
        have lH7:=congrArg List.length eH7
        try simp (disch:=first|exact dq|fail) only [go_sem,↓reduceIte] at lH7
        have aC:Agree [(9,11),(44,94)] C fr4:=by rw [eC];exact agq
        clear eC lH7
        have hW7:=tW
        have h7b:=tb
        have h7m:=tm
        have h7k:=tk
        have h7w:=tw
        have h7l:=tl
        rw [← eH7] at hW7 h7b h7m h7k h7w h7l
        clear eH7 tW tb tm tk tw tl
        have ⟨_,s0,_,s3,s4,s5,s6,vs3,s7,s8⟩:=hW7
        obtain ⟨yv,y1,y2,y3,y4,y5⟩:=s8.get (i:=ix) (by rw [List.length_set,hnxl];exact hix)
        have e3:(nx.set ix ((nx.getD ix wy0).1,l3)).getD ix wy0=((nx.getD ix wy0).1,l3):=by rw [List.getD_eq_getElem?_getD,List.getElem?_set_self (by rw [hnxl];exact hix)];rfl
        rw [e3] at y2 y3
        have q1:=(ldW y1 y5).1
        rw [← s7] at q1
        have q2:∀ {Z:ABlk→Heap},stQ base N H7[N]? 0 (ix * 2) [.int .i64 (((nx.getD ix wy0).1+(now.getD s wy0).1:Nat):Int)] Z=some (Z (wyB (vs3.set ix ⟨(((nx.getD ix wy0).1+(now.getD s wy0).1:Nat):Int),yv.v⟩))):=fun {Z}=>by
         rw [s7]
         exact (stW (u:=⟨(((nx.getD ix wy0).1+(now.getD s wy0).1:Nat):Int),yv.v⟩) (by omega) y1 y5 y5).1 rfl
        rw [y2] at q1
        have hadd:binA prog .add 3 (.int .i64 ((nx.getD ix wy0).1:Int)) (.int .i64 ((now.getD s wy0).1:Int))=some (.int .i64 (((nx.getD ix wy0).1+(now.getD s wy0).1:Nat):Int)):=by
         rw [bin_add,wrap64 (by omega) (by omega),Int.natCast_add]
        have hsp:=@Nat.succ_ne_zero;repeat' (first|simp (disch:=first|exact dq|fail) only [go_sem,↓reduceIte,hsp,kC0,kC3,kC4,kC5,kC7,kC8,kC10,kC11,kC27,kC28,kC42,kC43,kC44,r44,q1,q2,hadd,h7w]|refine WP_drw ?_|refine cnd_intro (fun hsp=>?_) fun hsp=>?_)
        have fW:=hW7.put (s8.upd (i:=ix) (y:=⟨(((nx.getD ix wy0).1+(now.getD s wy0).1:Nat):Int),yv.v⟩) (w:=((nx.getD ix wy0).1+(now.getD s wy0).1,l3)) rfl y3 y4)
        rw [List.set_set] at fW
        refine ⟨agq,by omega,fW,?_,?_,?_⟩
        ·first|exact h7b|(rw [get_set_ne (by omega)];exact h7b)
        ·first|exact h7m|(rw [get_set_ne (by omega)];exact h7m)
        ·intro i y hi hy
         rw [get_set_ne (by omega)];exact h7k i y hi hy
       ·have t2:(((now.getD s wy0).2.length:Int)+1<((nx.getD ix wy0).2.length:Int))=False:=eq_false (by omega)
        rw [if_neg (fun q=>q.elim z1 z2)]
        have hsp:=@Nat.succ_ne_zero;repeat' (first|simp (disch:=first|exact dq|fail) only [go_sem,↓reduceIte,hsp,r44,B0,B3,B4,B5,B7,B8,B27,B28,B42,B43,hlt4,ldw,t0,g4m,hor,c5,ldx,ldx2,t1,hwl,hxl,t2]|refine WP_drw ?_|refine cnd_intro (fun hsp=>?_) fun hsp=>?_)
        obtain ⟨l3,el3⟩:∃ l3,l3=(nx.getD ix wy0).2:=⟨_,rfl⟩
        rw [← el3]
        have ens:nx.set ix ((nx.getD ix wy0).1,l3)=nx:=by
         have q:=(List.getElem?_eq_some_iff.1 (getD_some (d:=wy0) (show ix<nx.length by omega))).2
         rw [el3]
         show nx.set ix (nx.getD ix wy0)=nx
         rw [← q,List.set_getElem_self]
        have tW:=hW4.ext (.app (t:=[⟨.cells [.int .i64 ((now.getD s wy0).1:Int),wv.v] 217 false false,0⟩]) .refl)
        rw [← ens] at tW
        have tb:=get_app (T:=[⟨.cells [.int .i64 ((now.getD s wy0).1:Int),wv.v] 217 false false,0⟩]) h4b
        have tm:=get_app (T:=[⟨.cells [.int .i64 ((now.getD s wy0).1:Int),wv.v] 217 false false,0⟩]) h4m
        have tk:∀ (i:Nat) (y:ABlk),N+5+1≤i→H2[i]?=some y→(H4++[⟨.cells [.int .i64 ((now.getD s wy0).1:Int),wv.v] 217 false false,0⟩])[i]?=some y:=fun i y hi hy=>get_app (h4k i y hi hy)
        have tw:(H4++[⟨.cells [.int .i64 ((now.getD s wy0).1:Int),wv.v] 217 false false,0⟩])[H4.length]?=some ⟨.cells [.int .i64 ((now.getD s wy0).1:Int),wv.v] 217 false false,0⟩:=by simp
        have tl:H4.length≤(H4++[(⟨.cells [.int .i64 ((now.getD s wy0).1:Int),wv.v] 217 false false,0⟩:ABlk)]).length:=by simp
        refine WPS_rest fun C H7 eC eH7=>?_
        refine WP_drw ?_
        have kC0:=congrFun eC 0
        have kC3:=congrFun eC 3
        have kC4:=congrFun eC 4
        have kC5:=congrFun eC 5
        have kC7:=congrFun eC 7
        have kC8:=congrFun eC 8
        have kC10:=congrFun eC 10
        have kC11:=congrFun eC 11
        have kC27:=congrFun eC 27
        have kC28:=congrFun eC 28
        have kC42:=congrFun eC 42
        have kC43:=congrFun eC 43
        have kC44:=congrFun eC 44
        try simp (disch:=first|exact dq|fail) only [go_sem,↓reduceIte,B0,B3,B4,B5,B7,B8,B27,B28,B42,B43] at kC0 kC3 kC4 kC5 kC7 kC8 kC10 kC11 kC27 kC28 kC42 kC43 kC44
        have lH7:=congrArg List.length eH7
        try simp (disch:=first|exact dq|fail) only [go_sem,↓reduceIte] at lH7
        have aC:Agree [(9,11),(44,94)] C fr4:=by rw [eC];exact agq
        clear eC lH7
        have hW7:=tW
        have h7b:=tb
        have h7m:=tm
        have h7k:=tk
        have h7w:=tw
        have h7l:=tl
        rw [← eH7] at hW7 h7b h7m h7k h7w h7l
        clear eH7 tW tb tm tk tw tl
        have ⟨_,s0,_,s3,s4,s5,s6,vs3,s7,s8⟩:=hW7
        obtain ⟨yv,y1,y2,y3,y4,y5⟩:=s8.get (i:=ix) (by rw [List.length_set,hnxl];exact hix)
        have e3:(nx.set ix ((nx.getD ix wy0).1,l3)).getD ix wy0=((nx.getD ix wy0).1,l3):=by rw [List.getD_eq_getElem?_getD,List.getElem?_set_self (by rw [hnxl];exact hix)];rfl
        rw [e3] at y2 y3
        have q1:=(ldW y1 y5).1
        rw [← s7] at q1
        have q2:∀ {Z:ABlk→Heap},stQ base N H7[N]? 0 (ix * 2) [.int .i64 (((nx.getD ix wy0).1+(now.getD s wy0).1:Nat):Int)] Z=some (Z (wyB (vs3.set ix ⟨(((nx.getD ix wy0).1+(now.getD s wy0).1:Nat):Int),yv.v⟩))):=fun {Z}=>by
         rw [s7]
         exact (stW (u:=⟨(((nx.getD ix wy0).1+(now.getD s wy0).1:Nat):Int),yv.v⟩) (by omega) y1 y5 y5).1 rfl
        rw [y2] at q1
        have hadd:binA prog .add 3 (.int .i64 ((nx.getD ix wy0).1:Int)) (.int .i64 ((now.getD s wy0).1:Int))=some (.int .i64 (((nx.getD ix wy0).1+(now.getD s wy0).1:Nat):Int)):=by
         rw [bin_add,wrap64 (by omega) (by omega),Int.natCast_add]
        have hsp:=@Nat.succ_ne_zero;repeat' (first|simp (disch:=first|exact dq|fail) only [go_sem,↓reduceIte,hsp,kC0,kC3,kC4,kC5,kC7,kC8,kC10,kC11,kC27,kC28,kC42,kC43,kC44,r44,q1,q2,hadd,h7w]|refine WP_drw ?_|refine cnd_intro (fun hsp=>?_) fun hsp=>?_)
        have fW:=hW7.put (s8.upd (i:=ix) (y:=⟨(((nx.getD ix wy0).1+(now.getD s wy0).1:Nat):Int),yv.v⟩) (w:=((nx.getD ix wy0).1+(now.getD s wy0).1,l3)) rfl y3 y4)
        rw [List.set_set] at fW
        refine ⟨agq,by omega,fW,?_,?_,?_⟩
        ·first|exact h7b|(rw [get_set_ne (by omega)];exact h7b)
        ·first|exact h7m|(rw [get_set_ne (by omega)];exact h7m)
        ·intro i y hi hy
         rw [get_set_ne (by omega)];exact h7k i y hi hy
    ·rintro fr4 H4 hA4 ⟨r44,hW4,h4b,h4m,h4k⟩
     have B0:=hA4 0 rfl
     have B3:=hA4 3 rfl
     have B4:=hA4 4 rfl
     have B5:=hA4 5 rfl
     have B7:=hA4 7 rfl
     have B8:=hA4 8 rfl
     have B27:=hA4 27 rfl
     have B28:=hA4 28 rfl
     have B42:=hA4 42 rfl
     have B43:=hA4 43 rfl
     try simp (disch:=first|exact dq|fail) only [go_sem,↓reduceIte,kA3,kA4,kA5,kA7,kA8,kA27] at B0 B3 B4 B5 B7 B8 B27 B28 B42 B43
     have hlt4:((n:Int)<(n:Int))=False:=eq_false (by omega)
     have hsp:=@Nat.succ_ne_zero;repeat' (first|simp (disch:=first|exact dq|fail) only [go_sem,↓reduceIte,hsp,r44,B0,B3,B4,B5,B7,B8,B27,B28,B42,B43,hlt4]|refine WP_drw ?_|refine cnd_intro (fun hsp=>?_) fun hsp=>?_)
     rw [hnl]
     exact ⟨h4b,h4k,.inl hW4⟩
  ·rintro H3 hW
   obtain ⟨⟨b1,b2,b3⟩,d0,_,d3,d4,d5,d6,vs2,d7,d8⟩:=hW
   rw [slB] at d5 d3
   have la:=lt_of_get d3
   have hsp:=@Nat.succ_ne_zero;repeat' (first|simp (disch:=first|exact dq|fail) only [go_sem,↓reduceIte,hsp,kF3,kF4,kF5,kF7,kF27,kF28,d5,d3]|refine WP_drw ?_|refine cnd_intro (fun hsp=>?_) fun hsp=>?_)
   refine ⟨agq,by omega,d0.set (by omega),N,vs2,?_,?_,?_⟩
   ·rfl
   ·rw [get_set_ne (by omega)];exact d7
   ·rw [wayN,← enow,← emds]
    exact (d8.less (fun i hi=>by cases hi)).setBox (m:=nid) (n:=n) d3
 ·rintro fr H hA ⟨r28,xH,nid,vs,c1,c2,c3⟩
  have p0:=hA 0 rfl
  have p3:=hA 3 rfl
  have p4:=hA 4 rfl
  have p5:=hA 5 rfl
  have p27:=hA 27 rfl
  try simp (disch:=first|exact dq|fail) only [go_sem,↓reduceIte] at p0 p3 p4 p5 p27
  have hlt:((L.ps.length:Int)<(L.ps.length:Int))=False:=eq_false (by omega)
  rw [slB] at c1
  have hsp:=@Nat.succ_ne_zero;repeat' (first|simp (disch:=first|exact dq|fail) only [go_sem,↓reduceIte,hsp,r28,p0,p3,p4,p5,p27,hlt,c1]|refine WP_drw ?_|refine cnd_intro (fun hsp=>?_) fun hsp=>?_)
  refine ⟨xh1.trans xH,nid,vs,?_,c2,c3.low (by omega)⟩
  rw [wayA,wayN_len,en]
end F4
end Go.AM
namespace Go.AM
namespace F4
open Go.Proofs.Tryz
attribute [-go_sem] put_ne put_same
attribute [local go_sem ↓] put_if
def DeskL (L:Lom) (bad:List Int):Prop:=chkM L=0∧bad.length≤10∧(∀ i ∈ bad,0≤i∧i<(L.ss.length:Int))∧∀ p ∈ L.ps,p.rib.length≤1000
def Lets (h:Heap) (g:AVal) (L:Lom) (bad:List Int) (f:Brk→Nat→Bool):Prop:=One g∧∀ base H b x,Ext h H→base≤H.length→(0≤b.1∧b.1<(L.ps.length:Int))→x<2 ^ bad.length→callL prog raw base g [.agg (mdC b x)] H=some (.bool (f b x),H)
theorem Lets.ext {h H:Heap} {g:AVal} {L:Lom} {bad:List Int} {f:Brk→Nat→Bool} (x:Lets h g L bad f) (e:Ext h H):Lets H g L bad f:=⟨x.1,fun base H' b y q=>x.2 base H' b y (e.trans q)⟩
theorem deskL_of {L:Lom} {o:List Int} (hc:chkM L=0) (hok:LomOk L) (ho:o.length≤10) (hoi:∀ i ∈ o,0≤i∧i<(L.ss.length:Int)):DeskL L (deskN L o).1 :=
 ⟨hc,by have:=(deskN_len (L:=L) o).2.2;omega,fun i hi=>hoi i (deskN_sub o i hi),hok.2.2.2.2⟩
theorem deskL_A {L:Lom} (hc:chkM L=0) (hok:LomOk L):DeskL L (deskA L).1:=by
 obtain ⟨k1,k2,k3,k4,k5,k6⟩:=chkM_ok hc
 exact deskL_of hc hok (by rw [upto_len];exact k4) (fun i hi=>upto_mem.1 hi)
theorem run_ways' {base:Nat} {h:Heap} {v g:AVal} {L:Lom} {bad:List Int} {ms:List (List Bool)} {f:Brk→Nat→Bool} (hb:base≤h.length) (hD:DeskAt h v L bad ms) (hL:DeskL L bad) (hf:Lets h g L bad f) :
  Ret prog raw base (.fn 175 [] []) [v,.agg [g]] h (fun w H=>Ext h H∧WaysAt h.length H w (wayA L bad ms f)) :=
 run_ways hb hD hL.1 hL.2.1 hL.2.2.1 hL.2.2.2 hf.1 hf.2
def expM (L:Lom) (bad:List Int) (ms:List (List Bool)) (f:Brk→Nat→Bool):Way:=(wayA L bad ms f).getD (2 ^ bad.length-1) wy0
set_option maxHeartbeats 1000000 in
theorem run_explainedO {base:Nat} {h:Heap} {v g:AVal} {L:Lom} {bad:List Int} {ms:List (List Bool)} {f:Brk→Nat→Bool} (hb:base≤h.length) (hD:DeskAt h v L bad ms) (hL:DeskL L bad) (hf:Lets h g L bad f) :
  Ret prog raw base (.fn 88 [] []) [v,.agg [g]] h (fun w H=>Ext h H∧∃ z,w=.agg [.int .i64 ((expM L bad ms f).1:Int),z]∧One z∧Own encB 67 h.length H z (expM L bad ms f).2):=by
 have hog:=hf.1
 obtain ⟨h2,eh2⟩:∃ h2:Heap,h2=h++[⟨.cells [g] 221 false false,0⟩]++[⟨.cells [.int .i64 0,.slice none 0 0] 217 false false,0⟩]:=⟨_,rfl⟩
 have xh2:Ext h h2:=by rw [eh2];exact .app (.app .refl)
 obtain ⟨w1,H1,e1,x1,nid,vs,rfl,c1,c2⟩:=run_ways' (base:=base) (h:=h2) (by have:=xh2.len;omega) (hD.ext xh2) hL (hf.ext xh2)
 obtain ⟨did,mid,pv,sv,bv,rfl,g1,g2,g3,g4,g5,g6,g7⟩:=hD
 have xh:=xh2.trans x1
 have hn0:0<2 ^ bad.length:=Nat.two_pow_pos _
 have hn1:2 ^ bad.length≤2 ^ 10:=Nat.pow_le_pow_right (by decide) hL.2.1
 have hlw:(wayA L bad ms f).length=2 ^ bad.length:=wayN_len _
 rw [hlw] at e1
 obtain ⟨n,en⟩:∃ n,n=2 ^ bad.length:=⟨_,rfl⟩
 have hsh:=shlN (t:=3) (k:=bad.length) (by have:=hL.2.1;omega)
 rw [← en] at hn0 hn1 e1 hsh hlw
 obtain ⟨wv,w1,w2,w3,w4,w5⟩:=c2.get (i:=n-1) (by omega)
 have ldw:=ldWA w1 w5
 rw [← c1,w2] at ldw
 have q1:=x1.get (show h2[h.length+1]?=some ⟨.cells [.int .i64 0,.slice none 0 0] 217 false false,0⟩ by rw [eh2];simp)
 have q1l:=lt_of_get q1
 have hlB:=lenI (g4.ext xh)
 have g1':=xh.get g1
 rw [deskB] at g1'
 have hex:expM L bad ms f=(wayA L bad ms f).getD (n-1) wy0:=by rw [en];rfl
 have hnn:((n:Int)-1)=((n-1:Nat):Int):=by omega
 rw [hex]
 rw [eh2] at e1 x1
 refine ret_raw func88 rfl (by kernel_rfl) ?_
 have hsp:=@Nat.succ_ne_zero;repeat' (first|simp (disch:=first|exact dq|fail) only [go_sem,↓reduceIte,hsp,e1,hlB,g1',hsh,ldw,q1,hnn,Nat.zero_add]|refine WP_drw ?_|refine cnd_intro (fun hsp=>?_) fun hsp=>?_)
 exact ⟨xh.set (by omega),wv.v,rfl,w5,(w3.setBox q1).low xh2.len⟩
theorem run_explained {base:Nat} {h:Heap} {v g:AVal} {L:Lom} {bad:List Int} {ms:List (List Bool)} {f:Brk→Nat→Bool} (hb:base≤h.length) (hD:DeskAt h v L bad ms) (hL:DeskL L bad) (hf:Lets h g L bad f) :
  Ret prog raw base (.fn 88 [] []) [v,.agg [g]] h (fun w H=>Ext h H∧∃ z,w=.agg [.int .i64 ((expM L bad ms f).1:Int),z]∧One z∧Own encB 67 0 H z (expM L bad ms f).2):=by
 obtain ⟨w,H,e,x,z,q,o,r⟩:=run_explainedO (base:=base) hb hD hL hf
 exact ⟨w,H,e,x,z,q,o,r.low (Nat.zero_le _)⟩
theorem run_all1 {base:Nat} {H:Heap} {b:Brk} {x:Nat}:callL prog raw base (.fn 176 [] []) [.agg (mdC b x)] H=some (.bool true,H):=by
 simp only [mdC]
 refine callL_run func176 rfl rfl ?_
 have hsp:=@Nat.succ_ne_zero;repeat' (first|simp (disch:=first|exact dq|fail) only [go_sem,↓reduceIte,hsp]|refine WP_drw ?_|refine cnd_intro (fun hsp=>?_) fun hsp=>?_)
 exact fB rfl
def allF:Brk→Nat→Bool:=fun _ _=>true
theorem lets_all {h:Heap} {L:Lom} {bad:List Int}:Lets h (.fn 176 [] []) L bad allF:=⟨⟨rfl,rfl,rfl⟩,fun base H b x _ _ _ _=>run_all1⟩
theorem run_allF {base:Nat} {h:Heap} (hb:base≤h.length):callL prog raw base (.fn 89 [] []) [] h=some (.agg [.fn 176 [] []],h++[⟨.cells [.fn 176 [] []] 221 false false,0⟩]):=by
 have ho:One (.fn 176 [] []):=⟨rfl,rfl,rfl⟩
 refine callL_raw func89 rfl (by kernel_rfl) ?_
 have hsp:=@Nat.succ_ne_zero;repeat' (first|simp (disch:=first|exact dq|fail) only [go_sem,↓reduceIte,hsp]|refine WP_drw ?_|refine cnd_intro (fun hsp=>?_) fun hsp=>?_)
def expA (L:Lom) (f:Brk→Nat→Bool):Way:=expM L (deskA L).1 (deskA L).2 f
def tolE (L:Lom) (b:Bool):Int:=if chkM L ≠ 0 then chkM L else if b=true then 1 else if (expA L allF).1=0 then 7 else 0
theorem tolE_ok {L:Lom} {b:Bool} (h:tolE L b=0):chkM L=0∧b=false∧(expA L allF).1 ≠ 0:=by
 unfold tolE at h
 split at h
 ·rename_i q;exact absurd h q
 ·split at h
  ·cases h
  ·split at h
   ·cases h
   ·rename_i q1 q2 q3;exact ⟨Classical.not_not.1 q1,by simpa using q2,q3⟩
set_option maxHeartbeats 1000000 in
theorem run_told {base:Nat} {h:Heap} {v:AVal} {L:Lom} {b:Bool} (hb:base≤h.length) (hL:LomAt h v L) (hok:LomOk L) :
  Ret prog raw base (.fn 87 [] []) [v,.bool b] h (fun w H=>Ext h H∧∃ x,w=.tuple [x,.int .i64 (tolE L b)]∧One x∧(tolE L b=0→DeskAt H x L (deskA L).1 (deskA L).2)):=by
 obtain ⟨pv,sv,rfl,hP,hS⟩:=id hL
 obtain ⟨w1,H1,e1,x1,y,rfl,ho,hd⟩:=run_opened (base:=base) (h:=h++[⟨.cells [.int .i64 L.R,.int .i64 L.T,pv,sv] 62 false false,0⟩]) (by simp;omega) (hL.ext (.app .refl)) hok
 have xh:=(Ext.app (t:=[⟨.cells [.int .i64 L.R,.int .i64 L.T,pv,sv] 62 false false,0⟩]) (Ext.refl (h:=h))).trans x1
 have hbH:base≤H1.length:=by have:=xh.len;omega
 by_cases c1:chkM L=0
 ·rw [c1] at e1
  have hD:=hd c1
  cases b with
  | true =>
   have r:tolE L true=1:=by unfold tolE;rw [if_neg (by simp [c1]),if_pos rfl]
   rw [r]
   refine ret_raw func87 rfl (by kernel_rfl) ?_
   have hsp:=@Nat.succ_ne_zero;repeat' (first|simp (disch:=first|exact dq|fail) only [go_sem,↓reduceIte,hsp,e1,eq_self]|refine WP_drw ?_|refine cnd_intro (fun hsp=>?_) fun hsp=>?_)
   exact ⟨xh,_,rfl,⟨rfl,rfl,rfl⟩,fun q=>by cases q⟩
  | false =>
   have ha:=run_allF (base:=base) (h:=H1) hbH
   obtain ⟨w2,H2,e2,x2,z,rfl,hz,_⟩:=run_explained (base:=base) (h:=H1++[⟨.cells [.fn 176 [] []] 221 false false,0⟩]) (by simp;omega) (hD.ext (.app .refl)) (deskL_A c1 hok) lets_all
   have ex:expM L (deskA L).1 (deskA L).2 allF=expA L allF:=rfl
   rw [ex] at e2
   have xh2:=xh.trans ((Ext.app .refl).trans x2)
   by_cases c2:(expA L allF).1=0
   ·have t2:(((expA L allF).1:Int)=0)=True:=eq_true (by omega)
    have r:tolE L false=7:=by unfold tolE;rw [if_neg (by simp [c1]),if_neg (by simp),if_pos c2]
    rw [r]
    refine ret_raw func87 rfl (by kernel_rfl) ?_
    have hsp:=@Nat.succ_ne_zero;repeat' (first|simp (disch:=first|exact dq|fail) only [go_sem,↓reduceIte,hsp,e1,eq_self,ha,e2,t2]|refine WP_drw ?_|refine cnd_intro (fun hsp=>?_) fun hsp=>?_)
    exact ⟨xh2,_,rfl,⟨rfl,rfl,rfl⟩,fun q=>by cases q⟩
   ·have t2:(((expA L allF).1:Int)=0)=False:=eq_false (by omega)
    have r:tolE L false=0:=by unfold tolE;rw [if_neg (by simp [c1]),if_neg (by simp),if_neg c2]
    rw [r]
    refine ret_raw func87 rfl (by kernel_rfl) ?_
    have hsp:=@Nat.succ_ne_zero;repeat' (first|simp (disch:=first|exact dq|fail) only [go_sem,↓reduceIte,hsp,e1,eq_self,ha,e2,t2]|refine WP_drw ?_|refine cnd_intro (fun hsp=>?_) fun hsp=>?_)
    exact ⟨xh2,y,rfl,ho,fun _=>hD.ext ((Ext.app .refl).trans x2)⟩
 ·have t1:(chkM L=0)=False:=eq_false c1
  have r:tolE L b=chkM L:=by unfold tolE;rw [if_pos c1]
  rw [r]
  refine ret_raw func87 rfl (by kernel_rfl) ?_
  have hsp:=@Nat.succ_ne_zero;repeat' (first|simp (disch:=first|exact dq|fail) only [go_sem,↓reduceIte,hsp,e1,t1]|refine WP_drw ?_|refine cnd_intro (fun hsp=>?_) fun hsp=>?_)
  exact ⟨xh,_,rfl,⟨rfl,rfl,rfl⟩,fun q=>q.elim⟩
def cntM (L:Lom):Int × Int:=if chkM L ≠ 0 then (0,chkM L) else (((expA L allF).1:Int),0)
def fewM (L:Lom):List Brk × Int:=if tolE L false ≠ 0 then ([],tolE L false) else ((expA L allF).2,0)
theorem run_fewestO {base:Nat} {h:Heap} {v:AVal} {L:Lom} (hb:base≤h.length) (hL:LomAt h v L) (hok:LomOk L) :
  Ret prog raw base (.fn 32 [] []) [v] h (fun w H=>Ext h H∧∃ x,w=.tuple [x,.int .i64 (fewM L).2]∧Own encB 67 h.length H x (fewM L).1):=by
 obtain ⟨pv,sv,rfl,hP,hS⟩:=id hL
 have hp1:=hP.one
 have hs1:=hS.one
 obtain ⟨w1,H1,e1,x1,y,rfl,ho,hd⟩:=run_told (base:=base) (h:=h++[⟨.cells [.int .i64 L.R,.int .i64 L.T,pv,sv] 62 false false,0⟩]) (b:=false) (by simp;omega) (hL.ext (.app .refl)) hok
 have xh:=(Ext.app (t:=[⟨.cells [.int .i64 L.R,.int .i64 L.T,pv,sv] 62 false false,0⟩]) (Ext.refl (h:=h))).trans x1
 have hbH:base≤H1.length:=by have:=xh.len;omega
 by_cases c1:tolE L false=0
 ·rw [c1] at e1
  have hD:=hd c1
  have ha:=run_allF (base:=base) (h:=H1) hbH
  obtain ⟨w2,H2,e2,x2,z,rfl,hz,hoz⟩:=run_explainedO (base:=base) (h:=H1++[⟨.cells [.fn 176 [] []] 221 false false,0⟩]) (by simp;omega) (hD.ext (.app .refl)) (deskL_A (tolE_ok c1).1 hok) lets_all
  have ex:expM L (deskA L).1 (deskA L).2 allF=expA L allF:=rfl
  rw [ex] at e2 hoz
  have xh2:=xh.trans ((Ext.app .refl).trans x2)
  have r:fewM L=((expA L allF).2,0):=by unfold fewM;rw [if_neg (by simp [c1])]
  rw [r]
  refine ret_raw func32 rfl (by kernel_rfl) ?_
  have hsp:=@Nat.succ_ne_zero;repeat' (first|simp (disch:=first|exact dq|fail) only [go_sem,↓reduceIte,hsp,e1,eq_self,ha,e2]|refine WP_drw ?_|refine cnd_intro (fun hsp=>?_) fun hsp=>?_)
  exact ⟨xh2,z,rfl,hoz.low (by have:=xh.len;simp only [List.length_append];omega)⟩
 ·have t1:(tolE L false=0)=False:=eq_false c1
  have r:fewM L=([],tolE L false):=by unfold fewM;rw [if_pos c1]
  rw [r]
  refine ret_raw func32 rfl (by kernel_rfl) ?_
  have hsp:=@Nat.succ_ne_zero;repeat' (first|simp (disch:=first|exact dq|fail) only [go_sem,↓reduceIte,hsp,e1,t1]|refine WP_drw ?_|refine cnd_intro (fun hsp=>?_) fun hsp=>?_)
  exact ⟨xh,_,rfl,Own.nil⟩
theorem run_fewest {base:Nat} {h:Heap} {v:AVal} {L:Lom} (hb:base≤h.length) (hL:LomAt h v L) (hok:LomOk L) :
  Ret prog raw base (.fn 32 [] []) [v] h (fun w H=>Ext h H∧∃ x,w=.tuple [x,.int .i64 (fewM L).2]∧Own encB 67 0 H x (fewM L).1):=by
 obtain ⟨w,H,e,x,z,q,o⟩:=run_fewestO (base:=base) hb hL hok
 exact ⟨w,H,e,x,z,q,o.low (Nat.zero_le _)⟩
end F4
end Go.AM
namespace Go.AM
namespace F4
abbrev Tru:=List Brk × Nat
def Ws (n:Nat) (l:List Way) (ts:List Tru):Prop:=l.length=n∧∀ S,S<n →
 (l.getD S wy0).1=(ts.filter fun t=>t.2 == S).length ∧
 ((l.getD S wy0).1 ≠ 0→(∃ t ∈ ts,t.2=S∧t.1=(l.getD S wy0).2)∧∀ t ∈ ts,t.2=S→(l.getD S wy0).2.length≤t.1.length)
theorem Ws.perm {n:Nat} {l:List Way} {ts us:List Tru} (x:Ws n l ts) (p:ts.Perm us):Ws n l us:=by
 refine ⟨x.1,fun S hS=>?_⟩
 obtain ⟨h1,h2⟩:=x.2 S hS
 refine ⟨by rw [h1];exact (p.filter _).length_eq,fun h=>?_⟩
 obtain ⟨⟨t,a,b⟩,c⟩:=h2 h
 exact ⟨⟨t,p.mem_iff.1 a,b⟩,fun t ht=>c t (p.mem_iff.2 ht)⟩
def putB (b:Brk) (x:Nat) (t:Tru):Tru:=(t.1++[b],t.2 ||| x)
theorem filt_none {ts:List Tru} {s:Nat} (h:(ts.filter fun t=>t.2 == s).length=0):∀ t ∈ ts,t.2 ≠ s:=fun t ht e=>by
 have:=List.eq_nil_of_length_eq_zero h
 have h2:t ∈ ts.filter fun t=>t.2 == s:=List.mem_filter.2 ⟨ht,by simp [e]⟩
 rw [this] at h2
 cases h2
theorem filt_put {F:List Tru} {b:Brk} {x s S:Nat} (hF:∀ t ∈ F,t.2=s):((F.map (putB b x)).filter fun t=>t.2 == S)=if s ||| x=S then F.map (putB b x) else []:=by
 split
 ·rename_i h
  refine List.filter_eq_self.2 fun t ht=>?_
  obtain ⟨u,hu,rfl⟩:=List.mem_map.1 ht
  simp [putB,hF u hu,h]
 ·rename_i h
  refine List.filter_eq_nil_iff.2 fun t ht=>?_
  obtain ⟨u,hu,rfl⟩:=List.mem_map.1 ht
  simp [putB,hF u hu,h]
theorem getD_setW {l:List Way} {i j:Nat} {w:Way} (hi:i<l.length):(l.set i w).getD j wy0=if i=j then w else l.getD j wy0:=by
 rw [List.getD_eq_getElem?_getD,List.getElem?_set]
 split
 ·rename_i h;subst h;simp [hi]
 ·rw [List.getD_eq_getElem?_getD]
theorem Ws.stepS {n:Nat} {now next:List Way} {ts us:List Tru} {b:Brk} {x s:Nat} (hN:Ws n now ts) (hX:Ws n next us) (hx:Below n x) (hs:s<n):Ws n (stepS now b x next s) (us++(ts.filter fun t=>t.2 == s).map (putB b x)):=by
 obtain ⟨n1,n2⟩:=hN.2 s hs
 unfold Go.AM.F4.stepS
 by_cases c:(now.getD s wy0).1=0
 ·rw [if_pos c]
  rw [c] at n1
  rw [List.eq_nil_of_length_eq_zero n1.symm]
  simpa using hX
 ·rw [if_neg c]
  obtain ⟨⟨t0,ht0,e0,e1⟩,n4⟩:=n2 c
  have hD:=hx s hs
  have hl:=hX.1
  refine ⟨by rw [List.length_set];exact hX.1,fun S hS=>?_⟩
  obtain ⟨x1,x2⟩:=hX.2 S hS
  rw [getD_setW (by omega),List.filter_append,filt_put (s:=s) (fun t ht=>by simpa using (List.mem_filter.1 ht).2)]
  by_cases e:s ||| x=S
  ·subst e
   rw [if_pos rfl,if_pos rfl,List.length_append,List.length_map]
   refine ⟨by rw [x1,n1],fun _=>?_⟩
   by_cases d:(next.getD (s ||| x) wy0).1=0 ∨ (now.getD s wy0).2.length+1<(next.getD (s ||| x) wy0).2.length
   ·rw [if_pos d]
    refine ⟨⟨putB b x t0,List.mem_append_right _ (List.mem_map_of_mem (List.mem_filter.2 ⟨ht0,by simp [e0]⟩)),by simp [putB,e0],by simp [putB,e1]⟩,fun t ht h2=>?_⟩
    rcases List.mem_append.1 ht with ht|ht
    ·rcases d with d|d
     ·exact absurd h2 (filt_none (by rw [← x1,d]) t ht)
     ·by_cases d0:(next.getD (s ||| x) wy0).1=0
      ·exact absurd h2 (filt_none (by rw [← x1,d0]) t ht)
      ·have:=(x2 d0).2 t ht h2
       simp only [List.length_append,List.length_cons,List.length_nil];omega
    ·obtain ⟨u,hu,rfl⟩:=List.mem_map.1 ht
     have hu':=List.mem_filter.1 hu
     have:=n4 u hu'.1 (by simpa using hu'.2)
     simp only [putB,List.length_append,List.length_cons,List.length_nil];omega
   ·rw [if_neg d]
    simp only [not_or] at d
    obtain ⟨⟨t1,ht1,g1,g2⟩,x4⟩:=x2 d.1
    refine ⟨⟨t1,List.mem_append_left _ ht1,g1,g2⟩,fun t ht h2=>?_⟩
    rcases List.mem_append.1 ht with ht|ht
    ·exact x4 t ht h2
    ·obtain ⟨u,hu,rfl⟩:=List.mem_map.1 ht
     have hu':=List.mem_filter.1 hu
     have:=n4 u hu'.1 (by simpa using hu'.2)
     simp only [putB,List.length_append,List.length_cons,List.length_nil];omega
  ·rw [if_neg e,if_neg e,List.append_nil]
   refine ⟨x1,fun h=>?_⟩
   obtain ⟨⟨t1,ht1,g1,g2⟩,x4⟩:=x2 h
   refine ⟨⟨t1,List.mem_append_left _ ht1,g1,g2⟩,fun t ht h2=>?_⟩
   rcases List.mem_append.1 ht with ht|ht
   ·exact x4 t ht h2
   ·obtain ⟨u,hu,rfl⟩:=List.mem_map.1 ht
    have hu':=List.mem_filter.1 hu
    exact absurd (by simpa [putB,(show u.2=s by simpa using hu'.2)] using h2) e
theorem filt_succ (s:Nat):∀ ts:List Tru,(ts.filter fun t=>decide (t.2<s+1)).Perm ((ts.filter fun t=>decide (t.2<s))++ts.filter fun t=>t.2 == s)
 | []=>.refl _
 | t :: ts=>by
  have ih:=filt_succ s ts
  rcases Nat.lt_trichotomy t.2 s with h|h|h
  ·rw [List.filter_cons_of_pos (by simpa using Nat.lt_succ_of_lt h),List.filter_cons_of_pos (by simpa using h),List.filter_cons_of_neg (by simpa using Nat.ne_of_lt h)]
   exact ih.cons t
  ·rw [List.filter_cons_of_pos (by simp [h]),List.filter_cons_of_neg (by simp [h]),List.filter_cons_of_pos (by simp [h])]
   exact (ih.cons t).trans List.perm_middle.symm
  ·rw [List.filter_cons_of_neg (by simp;omega),List.filter_cons_of_neg (by simp;omega),List.filter_cons_of_neg (by simp;omega)]
   exact ih
theorem Ws.stepN {n:Nat} {now next:List Way} {ts us:List Tru} {b:Brk} {x:Nat} (hN:Ws n now ts) (hX:Ws n next us) (hx:Below n x):∀ s,s≤n→Ws n (stepN now b x next s) (us++(ts.filter fun t=>decide (t.2<s)).map (putB b x))
 | 0,_=>by
  have:(ts.filter fun t=>decide (t.2<0))=[]:=List.filter_eq_nil_iff.2 fun t _=>by simp
  rw [this]
  simpa [Go.AM.F4.stepN] using hX
 | s+1,h=>by
  have ih:=Ws.stepN (b:=b) hN hX hx s (by omega)
  refine (hN.stepS ih hx (show s<n by omega)).perm ?_
  rw [List.append_assoc,← List.map_append]
  exact (((filt_succ s ts).map _).append_left us).symm
def oneB (f:Brk→Nat→Bool) (ts:List Tru) (q:Brk × Nat):List Tru:=if f q.1 q.2=true then ts.map (putB q.1 q.2) else []
theorem Ws.stepM {n:Nat} {f:Brk→Nat→Bool} {now next:List Way} {ts us:List Tru} {q:Brk × Nat} (hN:Ws n now ts) (hX:Ws n next us) (hx:Below n q.2) (ht:∀ t ∈ ts,t.2<n):Ws n (stepM f now next q) (us++oneB f ts q):=by
 unfold Go.AM.F4.stepM oneB
 split
 ·have:=hN.stepN hX hx (b:=q.1) n (Nat.le_refl _)
  rw [hN.1]
  rwa [show (ts.filter fun t=>decide (t.2<n))=ts from List.filter_eq_self.2 fun t h=>by simpa using ht t h] at this
 ·simpa using hX
theorem Ws.stepJ {n:Nat} {f:Brk→Nat→Bool} {now:List Way} {ts:List Tru} {l:List (Brk × Nat)} (hN:Ws n now ts) (hx:∀ q ∈ l,Below n q.2) (ht:∀ t ∈ ts,t.2<n):∀ j,j≤l.length→Ws n (stepJ f now l j) (ts++(l.take j).flatMap (oneB f ts))
 | 0,_=>by simpa [Go.AM.F4.stepJ] using hN
 | j+1,h=>by
  have ih:=Ws.stepJ (f:=f) hN hx ht j (by omega)
  have hg:=getD_some (d:=(brk0,0)) (show j<l.length by omega)
  have:=hN.stepM (f:=f) ih (hx _ (List.mem_of_getElem? hg)) ht
  rw [List.take_add_one,hg,List.flatMap_append,← List.append_assoc]
  simpa [Go.AM.F4.stepJ] using this
def trs (L:Lom) (bad:List Int) (ms:List (List Bool)) (f:Brk→Nat→Bool):Nat→List Tru
 | 0=>[([],0)]
 | k+1=>trs L bad ms f k++(made L bad ms k).flatMap (oneB f (trs L bad ms f k))
theorem trs_lt {L:Lom} {bad:List Int} {ms:List (List Bool)} {f:Brk→Nat→Bool}:∀ k,∀ t ∈ trs L bad ms f k,t.2<2 ^ bad.length
 | 0,t,h=>by simp only [trs,List.mem_singleton] at h;subst h;exact Nat.two_pow_pos _
 | k+1,t,h=>by
  rw [trs,List.mem_append] at h
  rcases h with h|h
  ·exact trs_lt k t h
  ·obtain ⟨q,hq,h⟩:=List.mem_flatMap.1 h
   unfold oneB at h
   split at h
   ·obtain ⟨u,hu,rfl⟩:=List.mem_map.1 h
    exact made_below q hq _ (trs_lt k u hu)
   ·cases h
theorem wayN_trs {L:Lom} {bad:List Int} {ms:List (List Bool)} {f:Brk→Nat→Bool}:∀ k,Ws (2 ^ bad.length) (wayN L bad ms f k) (trs L bad ms f k)
 | 0=>by
  refine ⟨by simp [wayN],fun S hS=>?_⟩
  rw [wayN,getD_setW (by simpa using Nat.two_pow_pos _)]
  by_cases h:0=S
  ·subst h
   rw [if_pos rfl]
   exact ⟨by simp [trs],fun _=>⟨⟨([],0),by simp [trs]⟩,fun t _ _=>by simp⟩⟩
  ·rw [if_neg h]
   have e:(List.replicate (2 ^ bad.length) wy0).getD S wy0=wy0:=by
    rw [List.getD_eq_getElem?_getD,List.getElem?_replicate];split<;>rfl
   rw [e]
   refine ⟨?_,fun h2=>absurd rfl h2⟩
   rw [trs,List.filter_cons_of_neg (by simpa using h)]
   rfl
 | k+1=>by
  have ih:=wayN_trs (L:=L) (bad:=bad) (ms:=ms) (f:=f) k
  have:=ih.stepJ (f:=f) (l:=made L bad ms k) made_below (trs_lt k) _ (Nat.le_refl _)
  rw [List.take_length] at this
  exact this
def orB (L:Lom) (bad:List Int) (t:List Brk):Nat:=t.foldl (fun a b=>a ||| bits L bad b) 0
theorem orB_snoc {L:Lom} {bad:List Int} {t:List Brk} {b:Brk}:orB L bad (t++[b])=orB L bad t ||| bits L bad b:=by simp [orB,List.foldl_append]
def letB (L:Lom) (bad:List Int) (ms:List (List Bool)) (f:Brk→Nat→Bool) (k:Nat):List Brk:=(brkL k (ms.getD k []) L.T.toNat).filter fun b=>f b (bits L bad b)
def trl (L:Lom) (bad:List Int) (ms:List (List Bool)) (f:Brk→Nat→Bool):Nat→List (List Brk)
 | 0=>[[]]
 | k+1=>trl L bad ms f k++(letB L bad ms f k).flatMap fun b=>(trl L bad ms f k).map (·++[b])
theorem made_flat {L:Lom} {bad:List Int} {f:Brk→Nat→Bool} {us:List (List Brk)}:∀ l:List Brk,
  (l.map fun b=>(b,bits L bad b)).flatMap (oneB f (us.map fun t=>(t,orB L bad t)))=((l.filter fun b=>f b (bits L bad b)).flatMap fun b=>us.map (·++[b])).map fun t=>(t,orB L bad t)
 | []=>rfl
 | b :: l=>by
  have ih:=made_flat (L:=L) (bad:=bad) (f:=f) (us:=us) l
  rw [List.map_cons,List.flatMap_cons,ih,List.filter_cons]
  by_cases h:f b (bits L bad b)=true
  ·rw [if_pos h,List.flatMap_cons,List.map_append]
   congr 1
   unfold oneB
   rw [if_pos h,List.map_map,List.map_map]
   exact List.map_congr_left fun t _=>by simp [putB,orB_snoc]
  ·rw [if_neg h]
   unfold oneB
   rw [if_neg h,List.nil_append]
theorem trs_trl {L:Lom} {bad:List Int} {ms:List (List Bool)} {f:Brk→Nat→Bool}:∀ k,trs L bad ms f k=(trl L bad ms f k).map fun t=>(t,orB L bad t)
 | 0=>rfl
 | k+1=>by
  rw [trs,trl,List.map_append,trs_trl k]
  congr 1
  exact made_flat _
end F4
end Go.AM
