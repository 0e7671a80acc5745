/-
  Plain: one round of narrowing, for a lot of which all others are parts.
-/
import Derived.Test.YtcemgempgbjbeaaGreatU21
set_option linter.unusedSimpArgs false
set_option linter.unusedVariables false
namespace Go.AM
def suL (f:Nat→Int × Int):Nat→Int
 | 0=>0
 | k+1=>suL f k+(f (k+1)).1
def suH (f:Nat→Int × Int):Nat→Int
 | 0=>0
 | k+1=>suH f k+(f (k+1)).2
def rdP (f:Nat→Int × Int) (lo hi:Int):Nat→Nat→Int × Int
 | 0=>nar f 0 lo hi
 | p+1=>nar (rdP f lo hi p) (p+1) ((rdP f lo hi p 0).1-(hi-(f (p+1)).2)) ((rdP f lo hi p 0).2-(lo-(f (p+1)).1))
theorem nar_ne {f:Nat→Int × Int} {i j:Nat} {lo hi:Int} (h:j ≠ i):nar f i lo hi j=f j:=by unfold nar setF;rw [if_neg h]
theorem nar_at {f:Nat→Int × Int} {i:Nat} {lo hi:Int}:nar f i lo hi i=(max (f i).1 lo,min (f i).2 hi):=by unfold nar setF;rw [if_pos rfl]
theorem rdP_zero {f:Nat→Int × Int} {lo hi:Int}:∀ p,rdP f lo hi p 0=(max (f 0).1 lo,min (f 0).2 hi)
 | 0=>nar_at
 | p+1=>by rw [rdP,nar_ne (by omega),rdP_zero p]
theorem rdP_gt {f:Nat→Int × Int} {lo hi:Int}:∀ (p:Nat) {j:Nat},p<j→rdP f lo hi p j=f j
 | 0,j,h=>nar_ne (by omega)
 | p+1,j,h=>by rw [rdP,nar_ne (by omega),rdP_gt p (by omega)]
theorem rdP_le {f:Nat→Int × Int} {lo hi:Int}:∀ (p:Nat) {j:Nat},1≤j→j≤p→rdP f lo hi p j=(max (f j).1 (max (f 0).1 lo-(hi-(f j).2)),min (f j).2 (min (f 0).2 hi-(lo-(f j).1)))
 | 0,j,h1,h2=>by omega
 | p+1,j,h1,h2=>by
  by_cases e:j=p+1
  ·subst e
   rw [rdP,nar_at,rdP_gt p (by omega),rdP_zero]
  ·rw [rdP,nar_ne e,rdP_le p h1 (by omega)]
structure Wgd (n:Nat) (f:Nat→Int × Int) (W S:Int):Prop where
 nn:2≤n∧n≤12
 z:f 0=(W,W)
 a:0≤(f 1).1∧(f 1).1≤W-S
 c:W-S≤(f 1).2∧(f 1).2≤10000
 r:∀ p,2≤p→p<n→(f p).1=(f p).2∧0≤(f p).1∧(f p).1≤100
 o:∀ p,n≤p→p<12→f p=(0,0)
 s:suL f (n-1)-(f 1).1=S
 w:0≤W∧W≤100
theorem Wgd.sums {n:Nat} {f:Nat→Int × Int} {W S:Int} (h:Wgd n f W S):∀ k,1≤k→k<n→suL f k-(f 1).1=suH f k-(f 1).2∧0≤suL f k-(f 1).1∧suL f k-(f 1).1≤100 * (k:Int)
 | 0,h1,_=>by omega
 | k+1,h1,h2=>by
  by_cases e:k=0
  ·subst e;simp [suL,suH]
  ·obtain ⟨q1,q2,q3⟩:=h.sums k (by omega) (by omega)
   have:=h.r (k+1) (by omega) h2
   rw [suL,suH]
   omega
theorem Wgd.round {n:Nat} {f:Nat→Int × Int} {W S:Int} (h:Wgd n f W S):∀ i,i<12→rdP f (suL f (n-1)) (suH f (n-1)) (n-1) i=if i=1 then (W-S,W-S) else f i:=by
 intro i hi
 have hn:=h.nn
 obtain ⟨q1,q2,q3⟩:=h.sums (n-1) (by omega) (by omega)
 have hs:=h.s
 have ha:=h.a
 have hc:=h.c
 by_cases e0:i=0
 ·subst e0
  rw [rdP_zero,h.z,if_neg (by omega)]
  simp only
  exact Prod.ext (by simp only;omega) (by simp only;omega)
 ·by_cases e1:i≤n-1
  ·rw [rdP_le _ (by omega) e1,h.z]
   simp only
   by_cases e2:i=1
   ·subst e2
    rw [if_pos rfl]
    exact Prod.ext (by simp only;omega) (by simp only;omega)
   ·rw [if_neg e2]
    have:=h.r i (by omega) (by omega)
    exact Prod.ext (by simp only;omega) (by simp only;omega)
  ·rw [rdP_gt _ (by omega),if_neg (by omega)]
end Go.AM
namespace Go.AM
open Go.Proofs.Tryz
attribute [-go_sem] put_ne put_same
attribute [local go_sem ↓] put_if
def tgtF (f:Nat→Int × Int) (x:Int):Nat→Int × Int:=fun i=>if i=1 then (x,x) else f i
theorem su_tgt {f:Nat→Int × Int} {x:Int}:∀ k,1≤k→suL (tgtF f x) k-x=suL f k-(f 1).1
 | 0,h=>by omega
 | k+1,_=>by
  by_cases e:k=0
  ·subst e;simp [suL,tgtF]
  ·have:=su_tgt (f:=f) (x:=x) k (by omega)
   rw [suL,suL]
   have e2:tgtF f x (k+1)=f (k+1):=by unfold tgtF;rw [if_neg (by omega)]
   rw [e2];omega
theorem Wgd.next {n:Nat} {f:Nat→Int × Int} {W S:Int} (h:Wgd n f W S):Wgd n (tgtF f (W-S)) W S:=by
 have hn:=h.nn
 have ha:=h.a
 have hc:=h.c
 have e1:tgtF f (W-S) 1=(W-S,W-S):=by unfold tgtF;rw [if_pos rfl]
 have e2:∀ p,p ≠ 1→tgtF f (W-S) p=f p:=fun p hp=>by unfold tgtF;rw [if_neg hp]
 refine ⟨hn,by rw [e2 0 (by omega)];exact h.z,by rw [e1];simp only;omega,by rw [e1];simp only;omega,fun p h1 h2=>by rw [e2 p (by omega)];exact h.r p h1 h2,fun p h1 h2=>by rw [e2 p (by omega)];exact h.o p h1 h2,?_,h.w⟩
 rw [e1,su_tgt _ (by omega)]
 exact h.s
theorem suH_bd {n:Nat} {f:Nat→Int × Int} {W S:Int} (h:Wgd n f W S) {k:Nat} (hk:k<n):-20000≤suL f k∧suL f k≤20000∧-20000≤suH f k∧suH f k≤20000:=by
 have hn:=h.nn
 have ha:=h.a
 have hc:=h.c
 have hw:=h.w
 by_cases e:k=0
 ·subst e;simp [suL,suH]
 ·obtain ⟨q1,q2,q3⟩:=h.sums k (by omega) hk
  omega
theorem Wgd.bd {n:Nat} {f:Nat→Int × Int} {W S:Int} (h:Wgd n f W S) {p:Nat} (hp:p<12):(f p).1≤(f p).2∧0≤(f p).1∧(f p).2≤10000:=by
 have hn:=h.nn
 have ha:=h.a
 have hc:=h.c
 have hw:=h.w
 by_cases e0:p=0
 ·subst e0;rw [h.z];simp only;omega
 ·by_cases e1:p=1
  ·subst e1;omega
  ·by_cases e2:p<n
   ·have:=h.r p (by omega) e2;omega
   ·rw [h.o p (by omega) hp];simp
theorem plain_ints:∀ {l:List Int},plainL (ints l)=true
 | []=>rfl
 | x :: l=>by
  have:=plain_ints (l:=l)
  rw [show ints (x :: l)=.int .i64 x :: ints l from rfl]
  simp [plainL,AVal.plain,this]
theorem stT42 {base:Nat} {l:List Oper} {s:St} {Q:AExit→St→Prop}:WP prog raw base (.region 20 l.toArray true) s Q=WPS prog raw base (.region 20 l.toArray true) s Q:=WP_stop
attribute [local go_sem ↓ 3000] stT42
open Classical in
set_option maxHeartbeats 8000000 in
theorem run_tight {base id:Nat} {h:Heap} {M:Mil} {f:Nat→Int × Int} {W S:Int} (hD:DeskS h id M) (hw:Wgd M.L.length f W S) :
  callL prog raw base (.fn 221 [] []) [.ptr (some ⟨id,0,0⟩),.agg (ints (bdF f))] h=some (.tuple [.agg (ints (bdF (tgtF f (W-S)))),.bool true],h):=by
 have hn:=hw.nn
 have hD':=hD
 obtain ⟨lv,wv,m,es,dg,dm,dL,_,_,iB,hno⟩:=hD'
 have olv:=dL.one
 obtain ⟨G,eG⟩:∃ G,G=h++[arB f]++[(⟨.cells (ints (lst (fun _=>(0:Int)) 24)) 182 false false,0⟩:ABlk)]:=⟨_,rfl⟩
 have xG:Ext h G:=by rw [eG];exact .app (.app .refl)
 have g0:G[h.length]?=some (arB f):=by rw [eG];exact get_app (get_eq rfl)
 have g1:G[h.length+1]?=some ⟨.cells (ints (lst (fun _=>(0:Int)) 24)) 182 false false,0⟩:=by rw [eG];exact get_eq (by simp)
 have z24:(ints (lst (fun _=>(0:Int)) 24)).length=24:=by rw [ints_length,lst_len]
 refine callL_run func221 rfl rfl ?_
 have hsp:=@Nat.succ_ne_zero;repeat' (first|simp (disch:=first|exact dqb|fail) only [go_sem,↓reduceIte,hsp,← eG]|refine WP_drw ?_|refine cnd_intro (fun hsp=>?_) fun hsp=>?_)
 refine WP_loop (fun σ=>∃ g,Wgd M.L.length g W S∧tgtF g (W-S)=tgtF f (W-S)∧σ.fr 0=.ptr (some ⟨id,0,0⟩)∧σ.fr 3=.ptr (some ⟨h.length,0,0⟩)∧σ.fr 4=.ptr (some ⟨h.length+1,0,0⟩)∧σ.fr 6=.fn 262 [] [.ptr (some ⟨h.length,0,0⟩)]∧Ext h σ.h∧σ.h[h.length]?=some (arB g)∧σ.h[h.length+1]?=some ⟨.cells (ints (lst (fun _=>(0:Int)) 24)) 182 false false,0⟩) (fun σ=>if σ.h[h.length]?=some (arB (tgtF f (W-S))) then 0 else 1) ?_ ?_
 ·exact ⟨f,hw,rfl,by simp (disch:=first|exact dqb|fail) only [go_sem,↓reduceIte],by simp (disch:=first|exact dqb|fail) only [go_sem,↓reduceIte],by simp (disch:=first|exact dqb|fail) only [go_sem,↓reduceIte],by simp (disch:=first|exact dqb|fail) only [go_sem,↓reduceIte],xG,g0,g1⟩
 ·rintro ⟨fr,H⟩ ⟨g,hg,hfg,r0,r3,r4,r6,xH,bH,zH⟩
  dsimp only at r0 r3 r4 r6 xH bH zH
  have lH:=lt_of_get zH
  have sB:=suH_bd hg (k:=M.L.length-1) (by omega)
  obtain ⟨K,eK⟩:∃ K,K=H++[arB g]:=⟨_,rfl⟩
  have xK:Ext H K:=by rw [eK];exact .app .refl
  have lK:K.length=H.length+1:=by rw [eK];simp
  have kB:K[H.length]?=some (arB g):=by rw [eK];exact get_eq rfl
  have bK:=xK.get bH
  have dK:=(xH.trans xK).get dg
  have nL:=(dL.ext (xH.trans xK)).len (P:=prog) Fc.el84
  have la:=ld_all (f:=g)
  have sa:=fun (id:Nat) (KK:ABlk→Heap)=>st_all (f:=g) (base:=h.length) (id:=id) (K:=KK) z24
  have spa:=fun (id:Nat) (h':Heap)=>stP_all (f:=g) (base:=h.length) (id:=id) (h:=h')
  unfold dkB at dK
  unfold arB at eK
  have hsp:=@Nat.succ_ne_zero;repeat' (first|simp (disch:=first|exact dqb|fail) only [go_sem,↓reduceIte,hsp,r0,r3,r4,r6,bH,la,spa,sa,← eK,dK,nL]|refine WP_drw ?_|refine cnd_intro (fun hsp=>?_) fun hsp=>?_)
  obtain ⟨lo,elo⟩:∃ lo,lo=suL g (M.L.length-1):=⟨_,rfl⟩
  obtain ⟨hi,ehi⟩:∃ hi,hi=suH g (M.L.length-1):=⟨_,rfl⟩
  obtain ⟨g1,eg1⟩:∃ g1,g1=rdP g lo hi (M.L.length-1):=⟨_,rfl⟩
  have hrd:∀ i,i<12→g1 i=tgtF g (W-S) i:=fun i hi12=>by rw [eg1,elo,ehi];exact hg.round i hi12
  rw [← elo,← ehi] at sB
  have gz:=hg.z
  have hW:=hg.w
  have nx:=hg.next
  refine WP_count [(5,5),(8,15),(24,102)] 0 M.L.length (Nat.zero_le _) (fun _ i fr' h'=>fr' 24=.int .i64 (i:Int)∧KeepX h.length K h'∧h'[h.length]?=some (arB (if i=0 then g else g1))) ?_ ?_ ?_
  ·exact ⟨by (simp (disch:=first|exact dqb|fail) only [go_sem,↓reduceIte,Int.natCast_zero];first|done|rfl),.refl,by rw [if_pos rfl];exact bK⟩
  ·rintro i fr2 J hi0 hi2 hA ⟨p24,kJ,bJ⟩
   have p0:=hA 0 rfl
   have p3:=hA 3 rfl
   have p4:=hA 4 rfl
   have p6:=hA 6 rfl
   have p7:=hA 7 rfl
   have p23:=hA 23 rfl
   try simp (disch:=first|exact dqb|fail) only [go_sem,↓reduceIte] at p0 p3 p4 p6 p7 p23
   have hlt:((i:Int)<(M.L.length:Int))=True:=eq_true (by omega)
   have hi12:i<12:=by omega
   have xJ:Ext h J:=kJ.ext (xH.trans xK) (Nat.le_refl _)
   have dJ:=xJ.get dg
   have mJ:=xJ.get dm
   have lk:=look_S (k:=(i:Int)) mJ
   have lJ:=kJ.1
   obtain ⟨gi,egi⟩:∃ gi,gi=(if i=0 then g else g1):=⟨_,rfl⟩
   rw [← egi] at bJ
   have ll:=ld_lo (f:=gi) hi12
   have lh:=ld_hi (f:=gi) hi12
   have tc:((gi i).1 > (gi i).2)=False:=eq_false (by
    have h1:=(hg.bd hi12).1
    have h2:=(nx.bd hi12).1
    rw [egi]
    split
    ·omega
    ·rw [hrd i hi12];omega)
   unfold dkB at dJ
   by_cases c:i=0
   ·rw [if_pos c] at egi
    subst egi
    have iB2:Ints J (lkS es (i:Int)) (rng (M.L.length-1)):=by rw [c];exact iB.ext xJ
    have oB:=iB2.one
    have nB:=lenI iB2
    rw [rng_len] at nB
    have t0:(((M.L.length-1:Nat):Int)=0)=False:=eq_false (by omega)
    have hsp:=@Nat.succ_ne_zero;repeat' (first|simp (disch:=first|exact dqb|fail) only [go_sem,↓reduceIte,hsp,p0,p3,p4,p6,p7,p23,p24,r0,r3,r6,hlt,bJ,ll,lh,tc,dJ,lk,nB,t0]|refine WP_drw ?_|refine cnd_intro (fun hsp=>?_) fun hsp=>?_)
    refine WP_count [(10,13),(48,64)] 0 (M.L.length-1) (Nat.zero_le _) (fun _ j fr' h'=>fr' 48=.int .i64 (j:Int)∧fr' 10=.int .i64 (suL gi j)∧fr' 11=.int .i64 (suH gi j)∧h'=J) ?_ ?_ ?_
    ·exact ⟨by (simp (disch:=first|exact dqb|fail) only [go_sem,↓reduceIte,Int.natCast_zero];first|done|rfl),by simp (disch:=first|exact dqb|fail) only [go_sem,↓reduceIte];rfl,by simp (disch:=first|exact dqb|fail) only [go_sem,↓reduceIte];rfl,rfl⟩
    ·rintro j fr3 J2 hj0 hj hB ⟨d48,d10,d11,rfl⟩
     have d0:=hB 0 rfl
     have d3:=hB 3 rfl
     have d4:=hB 4 rfl
     have d5:=hB 5 rfl
     have d6:=hB 6 rfl
     have d7:=hB 7 rfl
     have d8:=hB 8 rfl
     have d9:=hB 9 rfl
     have d23:=hB 23 rfl
     have d24:=hB 24 rfl
     have d46:=hB 46 rfl
     have d47:=hB 47 rfl
     try simp (disch:=first|exact dqb|fail) only [go_sem,↓reduceIte,p0,p3,p4,p6,p7,p23,p24] at d0 d3 d4 d5 d6 d7 d8 d9 d23 d24 d46 d47
     have hlt2:((j:Int)<((M.L.length-1:Nat):Int))=True:=eq_true (by omega)
     have aB:=adrI (i:=(j:Int)) (by omega) iB2 (by rw [rng_len];omega)
     rw [Int.toNat_natCast] at aB
     have dB:loadP prog J2 3 (elAddr (lkS es (i:Int)) j)=some (.int .i64 ((j+1:Nat):Int)):=by
      have:=loadI iB2 (i:=j) (by rw [rng_len];omega)
      rw [rng_at hj] at this
      exact this
     have q1:=ld_lo (f:=gi) (i:=j+1) (by omega)
     have q2:=ld_hi (f:=gi) (i:=j+1) (by omega)
     have s1:=suH_bd hg (k:=j) (by omega)
     have s2:=hg.bd (p:=j+1) (by omega)
     have j12:(((j+1:Nat):Int)<12)=True:=eq_true (by omega)
     have hsp:=@Nat.succ_ne_zero;repeat' (first|simp (disch:=first|exact dqb|fail) only [go_sem,↓reduceIte,hsp,d0,d3,d4,d5,d6,d7,d8,d9,d23,d24,d46,d47,d48,d10,d11,p0,p3,p4,p6,p7,p23,p24,r0,r3,r6,hlt2,aB,dB,bJ,q1,q2]|refine WP_drw ?_|refine cnd_intro (fun hsp=>?_) fun hsp=>?_)
     exact ⟨agq,by omega,rfl,rfl⟩
    ·rintro fr3 J2 hB ⟨d48,d10,d11,rfl⟩
     have d0:=hB 0 rfl
     have d3:=hB 3 rfl
     have d4:=hB 4 rfl
     have d5:=hB 5 rfl
     have d6:=hB 6 rfl
     have d7:=hB 7 rfl
     have d8:=hB 8 rfl
     have d9:=hB 9 rfl
     have d23:=hB 23 rfl
     have d24:=hB 24 rfl
     have d46:=hB 46 rfl
     have d47:=hB 47 rfl
     try simp (disch:=first|exact dqb|fail) only [go_sem,↓reduceIte,p0,p3,p4,p6,p7,p23,p24] at d0 d3 d4 d5 d6 d7 d8 d9 d23 d24 d46 d47
     have hlt2:(((M.L.length-1:Nat):Int)<((M.L.length-1:Nat):Int))=False:=eq_false (by omega)
     rw [← elo] at d10
     rw [← ehi] at d11
     obtain ⟨_,J3,e3,k3,b3⟩:=run_narrow (base:=h.length) (i:=i) (lo:=lo) (hi:=hi) (by have:=xJ.len;omega) bJ hi12 (by omega)
     rw [c] at b3
     have x3:Ext h J3:=k3.ext xJ (Nat.le_refl _)
     have iB3:Ints J3 (lkS es (i:Int)) (rng (M.L.length-1)):=by rw [c];exact iB.ext x3
     have nB3:=lenI iB3
     rw [rng_len] at nB3
     have kK3:KeepX h.length K J3:=kJ.trans k3
     have hsp:=@Nat.succ_ne_zero;repeat' (first|simp (disch:=first|exact dqb|fail) only [go_sem,↓reduceIte,hsp,d0,d3,d4,d5,d6,d7,d8,d9,d23,d24,d46,d47,d48,d10,d11,p0,p3,p4,p6,p7,p23,p24,r0,r3,r4,r6,hlt2,e3,nB3]|refine WP_drw ?_|refine cnd_intro (fun hsp=>?_) fun hsp=>?_)
     refine WP_count [(15,15),(72,101)] 0 (M.L.length-1) (Nat.zero_le _) (fun _ j fr' h'=>fr' 72=.int .i64 (j:Int)∧KeepX h.length K h'∧h'[h.length]?=some (arB (rdP gi lo hi j))) ?_ ?_ ?_
     ·exact ⟨by (simp (disch:=first|exact dqb|fail) only [go_sem,↓reduceIte,Int.natCast_zero];first|done|rfl),kK3,b3⟩
     ·rintro j fr4 J4 hj0 hj hC ⟨c72,k4,b4⟩
      have c0:=hC 0 rfl
      have c3:=hC 3 rfl
      have c4:=hC 4 rfl
      have c5:=hC 5 rfl
      have c6:=hC 6 rfl
      have c7:=hC 7 rfl
      have c8:=hC 8 rfl
      have c10:=hC 10 rfl
      have c11:=hC 11 rfl
      have c23:=hC 23 rfl
      have c24:=hC 24 rfl
      have c70:=hC 70 rfl
      have c71:=hC 71 rfl
      try simp (disch:=first|exact dqb|fail) only [go_sem,↓reduceIte,d0,d3,d4,d5,d6,d7,d8,d10,d11,d23,d24] at c0 c3 c4 c5 c6 c7 c8 c10 c11 c23 c24 c70 c71
      have hlt3:((j:Int)<((M.L.length-1:Nat):Int))=True:=eq_true (by omega)
      have x4:Ext h J4:=k4.ext (xH.trans xK) (Nat.le_refl _)
      have iB4:Ints J4 (lkS es (i:Int)) (rng (M.L.length-1)):=by rw [c];exact iB.ext x4
      have aB:=adrI (i:=(j:Int)) (by omega) iB4 (by rw [rng_len];omega)
      rw [Int.toNat_natCast] at aB
      have dB:loadP prog J4 3 (elAddr (lkS es (i:Int)) j)=some (.int .i64 ((j+1:Nat):Int)):=by
       have:=loadI iB4 (i:=j) (by rw [rng_len];omega)
       rw [rng_at hj] at this
       exact this
      have b4K:=k4.2 _ _ (by omega) kB
      have q1:=ld_lo (f:=gi) (i:=j+1) (by omega)
      have q2:=ld_hi (f:=gi) (i:=j+1) (by omega)
      have q3:=ld_lo (f:=rdP gi lo hi j) hi12
      have q4:=ld_hi (f:=rdP gi lo hi j) hi12
      have s2:=hg.bd (p:=j+1) (by omega)
      have ez:rdP gi lo hi j i=(max W lo,min W hi):=by rw [c,rdP_zero,gz]
      have ez1:(rdP gi lo hi j i).1=max W lo:=by rw [ez]
      have ez2:(rdP gi lo hi j i).2=min W hi:=by rw [ez]
      obtain ⟨_,J5,e5,k5,b5⟩:=run_narrow (base:=h.length) (i:=j+1) (lo:=(rdP gi lo hi j i).1-(hi-(gi (j+1)).2)) (hi:=(rdP gi lo hi j i).2-(lo-(gi (j+1)).1)) (by have:=x4.len;omega) b4 (by omega) (by omega)
      have hsp:=@Nat.succ_ne_zero;repeat' (first|simp (disch:=first|exact dqb|fail) only [go_sem,↓reduceIte,hsp,c0,c3,c4,c5,c6,c7,c8,c10,c11,c23,c24,c70,c71,c72,d0,d3,d4,d5,d6,d7,d8,d9,d23,d24,d46,d47,d48,d10,d11,p0,p3,p4,p6,p7,p23,p24,r0,r3,r4,r6,hlt3,aB,dB]|refine WP_drw ?_|refine cnd_intro (fun hsp=>?_) fun hsp=>?_)
      refine WPS_go ?_
      refine WP_wild [] (by kernel_rfl) (by kernel_rfl) (by kernel_rfl) trivial fun KK hK=>?_
      iterate 25
       rw [TRS_cons]
       refine ⟨by first|(simp (disch:=first|exact dqb|fail) only [go_sem,↓reduceIte,c0,c3,c4,c5,c6,c7,c8,c10,c11,c23,c24,c70,c71,c72,d0,d3,d4,d5,d6,d7,d8,d9,d23,d24,d46,d47,d48,d10,d11,p0,p3,p4,p6,p7,p23,p24,r0,r3,r4,r6,b4,q3,q4,b4K,q1,q2,e5,ldsQ_cons,ldsQ_nil,grdQ_cons,grdQ_nil,if_true,Nat.reduceLeDiff];done)|exact trivial,?_⟩
       simp (disch:=first|exact dqb|fail) only [go_sem,↓reduceIte,c0,c3,c4,c5,c6,c7,c8,c10,c11,c23,c24,c70,c71,c72,d0,d3,d4,d5,d6,d7,d8,d9,d23,d24,d46,d47,d48,d10,d11,p0,p3,p4,p6,p7,p23,p24,r0,r3,r4,r6,b4,q3,q4,b4K,q1,q2,e5]
      rw [TRS_nil]
      refine ⟨by first|(simp (disch:=first|exact dqb|fail) only [go_sem,↓reduceIte,c0,c3,c4,c5,c6,c7,c8,c10,c11,c23,c24,c70,c71,c72,d0,d3,d4,d5,d6,d7,d8,d9,d23,d24,d46,d47,d48,d10,d11,p0,p3,p4,p6,p7,p23,p24,r0,r3,r4,r6,b4,q3,q4,b4K,q1,q2,e5,ldsQ_cons,ldsQ_nil,grdQ_cons,grdQ_nil,if_true,Nat.reduceLeDiff];done)|exact trivial,?_⟩
      subst hK
      have hsp:=@Nat.succ_ne_zero;repeat' (first|simp (disch:=first|exact dqb|fail) only [go_sem,↓reduceIte,hsp,c0,c3,c4,c5,c6,c7,c8,c10,c11,c23,c24,c70,c71,c72,d0,d3,d4,d5,d6,d7,d8,d9,d23,d24,d46,d47,d48,d10,d11,p0,p3,p4,p6,p7,p23,p24,r0,r3,r4,r6]|refine WP_drw ?_|refine cnd_intro (fun hsp=>?_) fun hsp=>?_)
      exact ⟨agq,by omega,k4.trans k5,by rw [rdP,← c];exact b5⟩
     ·rintro fr4 J4 hC ⟨c72,k4,b4⟩
      have c0:=hC 0 rfl
      have c3:=hC 3 rfl
      have c4:=hC 4 rfl
      have c5:=hC 5 rfl
      have c6:=hC 6 rfl
      have c7:=hC 7 rfl
      have c8:=hC 8 rfl
      have c10:=hC 10 rfl
      have c11:=hC 11 rfl
      have c23:=hC 23 rfl
      have c24:=hC 24 rfl
      have c70:=hC 70 rfl
      have c71:=hC 71 rfl
      try simp (disch:=first|exact dqb|fail) only [go_sem,↓reduceIte,d0,d3,d4,d5,d6,d7,d8,d10,d11,d23,d24] at c0 c3 c4 c5 c6 c7 c8 c10 c11 c23 c24 c70 c71
      have hlt3:(((M.L.length-1:Nat):Int)<((M.L.length-1:Nat):Int))=False:=eq_false (by omega)
      have hsp:=@Nat.succ_ne_zero;repeat' (first|simp (disch:=first|exact dqb|fail) only [go_sem,↓reduceIte,hsp,c0,c3,c4,c5,c6,c7,c8,c10,c11,c23,c24,c70,c71,c72,d0,d3,d4,d5,d6,d7,d8,d9,d23,d24,d46,d47,d48,d10,d11,p0,p3,p4,p6,p7,p23,p24,r0,r3,r4,r6,hlt3]|refine WP_drw ?_|refine cnd_intro (fun hsp=>?_) fun hsp=>?_)
      exact ⟨agq,by omega,k4,by first|(rw [eg1];exact b4)|(rw [if_neg (by omega),eg1];exact b4)⟩
   ·rw [if_neg c] at egi
    subst egi
    have nul:=hno (i:Int) (by omega)
    rw [nul] at lk
    have hsp:=@Nat.succ_ne_zero;repeat' (first|simp (disch:=first|exact dqb|fail) only [go_sem,↓reduceIte,hsp,p0,p3,p4,p6,p7,p23,p24,r0,r3,r6,hlt,bJ,ll,lh,tc,dJ,lk]|refine WP_drw ?_|refine cnd_intro (fun hsp=>?_) fun hsp=>?_)
    first|exact ⟨agq,by omega,kJ⟩|exact ⟨agq,by omega,kJ,bJ⟩|exact ⟨agq,by omega,kJ,by rw [if_neg (by omega)];exact bJ⟩
  ·rintro fr2 J hA ⟨p24,kJ,bJ⟩
   have p0:=hA 0 rfl
   have p3:=hA 3 rfl
   have p4:=hA 4 rfl
   have p6:=hA 6 rfl
   have p7:=hA 7 rfl
   have p23:=hA 23 rfl
   try simp (disch:=first|exact dqb|fail) only [go_sem,↓reduceIte] at p0 p3 p4 p6 p7 p23
   have hlt:((M.L.length:Int)<(M.L.length:Int))=False:=eq_false (by omega)
   rw [if_neg (by omega)] at bJ
   have xJ:Ext h J:=kJ.ext (xH.trans xK) (Nat.le_refl _)
   have la1:=ld_all (f:=g1)
   have bJK:=kJ.2 _ _ (by omega) kB
   have zJ:=kJ.2 _ _ (by omega) (xK.get zH)
   have eqb:=eq_bd (f:=g1) (g:=g)
   have e1:bdF g1=bdF (tgtF f (W-S)):=bdF_ext fun i hi12=>by rw [hrd i hi12,hfg]
   by_cases cc:((List.range 12).all fun i=>decide ((g1 i).1=(g i).1) && decide ((g1 i).2=(g i).2))=true
   ·rw [cc] at eqb
    have sa1:=fun (KK:ABlk→Heap)=>st_all (f:=g1) (base:=h.length) (id:=h.length+1) (K:=KK) z24
    have spa1:=fun (id:Nat) (h':Heap)=>stP_all (f:=g1) (base:=h.length) (id:=id) (h:=h')
    have lzJ:=lt_of_get zJ
    have hsp:=@Nat.succ_ne_zero;repeat' (first|simp (disch:=first|exact dqb|fail) only [go_sem,↓reduceIte,hsp,p0,p3,p4,p6,p7,p23,p24,r0,r3,r4,r6,hlt,bJ,la1,bJK,la,eqb,zJ,spa1,sa1]|refine WP_drw ?_|refine cnd_intro (fun hsp=>?_) fun hsp=>?_)
    rw [← e1]
    refine fin_pl rfl ?_ (xJ.set (Nat.le_succ _))
    have pl:plainL (ints (bdF g1))=true:=plain_ints
    simp [AVal.plain,plainL,pl]
   ·rw [Bool.eq_false_iff.2 cc] at eqb
    have hsp:=@Nat.succ_ne_zero;repeat' (first|simp (disch:=first|exact dqb|fail) only [go_sem,↓reduceIte,hsp,p0,p3,p4,p6,p7,p23,p24,r0,r3,r4,r6,hlt,bJ,la1,bJK,la,eqb]|refine WP_drw ?_|refine cnd_intro (fun hsp=>?_) fun hsp=>?_)
    have e2:tgtF (tgtF g (W-S)) (W-S)=tgtF f (W-S):=by
     rw [← hfg]
     funext i
     unfold tgtF
     split<;>rfl
    have e3:bdF g1=bdF (tgtF g (W-S)):=bdF_ext hrd
    refine ⟨⟨tgtF g (W-S),nx,e2,xJ,by unfold arB;rw [e3],zJ⟩,?_⟩
    rw [if_pos (by unfold arB;rw [e1]),if_neg]
    ·omega
    ·intro q
     rw [bH] at q
     have q:bdF g=bdF (tgtF f (W-S)):=by
      have:=Option.some.inj q
      simp only [ABlk.mk.injEq,ABody.cells.injEq,and_true] at this
      have h2:(bdF g).map (AVal.int .i64)=(bdF (tgtF f (W-S))).map (AVal.int .i64):=this
      exact (List.map_inj_right (fun a b e=>by injection e)).1 h2
     refine cc (List.all_eq_true.2 fun i hi12=>?_)
     rw [List.mem_range] at hi12
     have a1:=bdF_at (f:=g) hi12
     have a2:=bdF_at (f:=g1) hi12
     rw [q,← e1] at a1
     rw [a1.1] at a2
     have b1:=Option.some.inj a2.1
     have b2:=Option.some.inj (a1.2.symm.trans a2.2)
     rw [decide_eq_true b1.symm,decide_eq_true b2.symm];rfl
end Go.AM
namespace Go.AM
open Go.Proofs.Tryz
attribute [-go_sem] put_ne put_same
attribute [local go_sem ↓] put_if
def iniF (n:Nat):Nat→Int × Int:=fun i=>if i<n then (0,10000) else (0,0)
def gF (n:Nat) (G:List (Int × Int × Int × Int)):Nat→Int × Int:=G.foldl (fun f w=>nar f w.1.toNat w.2.1 w.2.1) (iniF n)
theorem gF_snoc {n:Nat} {G:List (Int × Int × Int × Int)} {w:Int × Int × Int × Int}:gF n (G++[w])=nar (gF n G) w.1.toNat w.2.1 w.2.1:=by
 unfold gF
 rw [List.foldl_append];rfl
theorem zero24:lst (fun _=>(0:Int)) 24=bdF fun _=>(0,0):=by
 unfold bdF
 congr 1
 funext j
 split<;>rfl
theorem run_all1 {base:Nat} {h:Heap} {n:Int}:callL prog raw base (.fn 222 [] []) [.int .i64 n] h=some (.bool true,h):=by
 refine callL_run func222 rfl rfl ?_
 have hsp:=@Nat.succ_ne_zero;repeat' (first|simp (disch:=first|exact dqb|fail) only [go_sem,↓reduceIte,hsp]|refine WP_drw ?_|refine cnd_intro (fun hsp=>?_) fun hsp=>?_)
 exact fB rfl
theorem run_sall {base:Nat} {h:Heap}:callL prog raw base (.fn 164 [] []) [] h=some (.agg [.fn 222 [] []],h):=by
 refine callL_run func164 rfl rfl ?_
 have hsp:=@Nat.succ_ne_zero;repeat' (first|simp (disch:=first|exact dqb|fail) only [go_sem,↓reduceIte,hsp]|refine WP_drw ?_|refine cnd_intro (fun hsp=>?_) fun hsp=>?_)
 exact fin_pl rfl rfl (.app .refl)
set_option maxHeartbeats 4000000 in
theorem run_sbounds {base id:Nat} {h:Heap} {M:Mil} {W S:Int} (hD:DeskS h id M) (ok:MOk M) (hw:Wgd M.L.length (gF M.L.length M.G) W S) :
  callL prog raw base (.fn 163 [] []) [.ptr (some ⟨id,0,0⟩),.agg [.fn 222 [] []]] h=some (.tuple [.agg (ints (bdF (tgtF (gF M.L.length M.G) (W-S)))),.bool true],h):=by
 have b1:=ok.n
 have b2:=ok.g
 have hD':=hD
 obtain ⟨lv,wv,m,es,dg,dm,dL,dG,_,iB,hno⟩:=hD'
 have olv:=dL.one
 have owv:=dG.one
 obtain ⟨G,eG⟩:∃ G,G=h++[(⟨.cells [.fn 222 [] []] 290 false false,0⟩:ABlk)]++[(⟨.cells (ints (lst (fun _=>(0:Int)) 24)) 182 false false,0⟩:ABlk)]++[(⟨.cells (ints (lst (fun _=>(0:Int)) 24)) 182 false false,0⟩:ABlk)]:=⟨_,rfl⟩
 have xG:Ext h G:=by rw [eG];exact .app (.app (.app .refl))
 have lG:G.length=h.length+3:=by rw [eG];simp
 have gf:G[h.length]?=some ⟨.cells [.fn 222 [] []] 290 false false,0⟩:=by rw [eG];exact get_app (get_app (get_eq rfl))
 have gr:G[h.length+1]?=some ⟨.cells (ints (lst (fun _=>(0:Int)) 24)) 182 false false,0⟩:=by rw [eG];exact get_app (get_eq (by simp))
 have gb:G[h.length+1+1]?=some (arB fun _=>(0,0)):=by
  unfold arB
  rw [← zero24,eG];exact get_eq (by simp)
 have z24:(ints (lst (fun _=>(0:Int)) 24)).length=24:=by rw [ints_length,lst_len]
 have gd:=xG.get dg
 have nL:=(dL.ext xG).len (P:=prog) Fc.el84
 unfold dkB at gd
 refine callL_run func163 rfl rfl ?_
 have hsp:=@Nat.succ_ne_zero;repeat' (first|simp (disch:=first|exact dqb|fail) only [go_sem,↓reduceIte,hsp,← eG,gd,nL]|refine WP_drw ?_|refine cnd_intro (fun hsp=>?_) fun hsp=>?_)
 refine WP_count [(7,7),(17,23)] 0 M.L.length (Nat.zero_le _) (fun _ i fr h'=>fr 17=.int .i64 (i:Int)∧KeepX (h.length+1+1) G h'∧∃ f,h'[h.length+1+1]?=some (arB f)∧∀ k,f k=iniF i k) ?_ ?_ ?_
 ·exact ⟨by (simp (disch:=first|exact dqb|fail) only [go_sem,↓reduceIte,Int.natCast_zero];first|done|rfl),.refl,_,gb,fun k=>by unfold iniF;rw [if_neg (by omega)]⟩
 ·rintro i fr H hi0 hi hA ⟨p17,kH,f,bH,hf⟩
  have p0:=hA 0 rfl
  have p3:=hA 3 rfl
  have p4:=hA 4 rfl
  have p5:=hA 5 rfl
  have p6:=hA 6 rfl
  have p16:=hA 16 rfl
  try simp (disch:=first|exact dqb|fail) only [go_sem,↓reduceIte] at p0 p3 p4 p5 p6 p16
  have hlt:((i:Int)<(M.L.length:Int))=True:=eq_true (by omega)
  have hi12:i<12:=by omega
  have i12:((i:Int)<12)=True:=eq_true (by omega)
  have lH:=lt_of_get bH
  have st:=fun (KK:ABlk→Heap)=>st_hi (f:=f) (i:=i) (base:=h.length) (id:=h.length+1+1) (K:=KK) (y:=10000) hi12
  have hsp:=@Nat.succ_ne_zero;repeat' (first|simp (disch:=first|exact dqb|fail) only [go_sem,↓reduceIte,hsp,p0,p3,p4,p5,p6,p16,p17,hlt,bH,st]|refine WP_drw ?_|refine cnd_intro (fun hsp=>?_) fun hsp=>?_)
  have kS:KeepX (h.length+1+1) G (H.set (h.length+1+1) (arB (setF f i ((f i).1,10000)))):=kH.set
  refine ⟨agq,by omega,kS,setF f i ((f i).1,10000),by first|rfl|rw [List.getElem?_set_self lH],fun k=>?_⟩
  unfold setF
  by_cases e:k=i
  ·subst e
   have h1:=hf k
   unfold iniF at h1 ⊢
   rw [if_pos rfl,if_pos (by omega),h1,if_neg (by omega)]
  ·rw [if_neg e,hf k]
   unfold iniF
   by_cases c:k<i
   ·rw [if_pos c,if_pos (by omega)]
   ·rw [if_neg c,if_neg (by omega)]
 ·rintro fr H hA ⟨p17,kH,f,bH,hf⟩
  have p0:=hA 0 rfl
  have p3:=hA 3 rfl
  have p4:=hA 4 rfl
  have p5:=hA 5 rfl
  have p6:=hA 6 rfl
  have p16:=hA 16 rfl
  try simp (disch:=first|exact dqb|fail) only [go_sem,↓reduceIte] at p0 p3 p4 p5 p6 p16
  have hlt:((M.L.length:Int)<(M.L.length:Int))=False:=eq_false (by omega)
  have xH:Ext h H:=kH.ext xG (by omega)
  have dH:=xH.get dg
  have nG:=(dG.ext xH).len (P:=prog) Fc.el85
  have fH:=kH.2 _ _ (by omega) gf
  have rH:=kH.2 _ _ (by omega) gr
  have eqf:f=iniF M.L.length:=funext hf
  unfold dkB at dH
  have hsp:=@Nat.succ_ne_zero;repeat' (first|simp (disch:=first|exact dqb|fail) only [go_sem,↓reduceIte,hsp,p0,p3,p4,p5,p6,p16,p17,hlt,dH,nG]|refine WP_drw ?_|refine cnd_intro (fun hsp=>?_) fun hsp=>?_)
  refine WP_count [(8,10),(30,63)] 0 M.G.length (Nat.zero_le _) (fun _ i fr h'=>fr 30=.int .i64 (i:Int)∧KeepX (h.length+1+1) H h'∧h'[h.length+1+1]?=some (arB (gF M.L.length (M.G.take i)))) ?_ ?_ ?_
  ·exact ⟨by (simp (disch:=first|exact dqb|fail) only [go_sem,↓reduceIte,Int.natCast_zero];first|done|rfl),.refl,by rw [List.take_zero];show _=some (arB (iniF _));rw [← eqf];exact bH⟩
  ·rintro i fr2 J hi0 hi hB ⟨d30,kJ,bJ⟩
   have d0:=hB 0 rfl
   have d3:=hB 3 rfl
   have d4:=hB 4 rfl
   have d5:=hB 5 rfl
   have d6:=hB 6 rfl
   have d28:=hB 28 rfl
   have d29:=hB 29 rfl
   try simp (disch:=first|exact dqb|fail) only [go_sem,↓reduceIte,p0,p3,p4,p5,p6] at d0 d3 d4 d5 d6 d28 d29
   have hlt2:((i:Int)<(M.G.length:Int))=True:=eq_true (by omega)
   have xJ:Ext h J:=kJ.ext xH (by omega)
   have lJ:=lt_of_get bJ
   obtain ⟨w,hwi⟩:∃ w,M.G[i]?=some w:=⟨_,List.getElem?_eq_getElem hi⟩
   have okw:=ok.w w (List.mem_of_getElem? hwi)
   obtain ⟨k,ek⟩:=Int.eq_ofNat_of_zero_le okw.l.1
   have hk:k<M.L.length:=by have:=okw.l.2;omega
   have hk12:k<12:=by omega
   have rJ:=dG.ext xJ
   have a:=rJ.addr (P:=prog) (i:=(i:Int)) Fc.el85 Fc.ar85 (by omega) (by omega)
   rw [Int.toNat_natCast] at a
   have dW:loadP prog J 93 (elAdr wv encG.z i 0)=some (.agg [.int .i64 (k:Int),.int .i64 w.2.1,.int .i64 w.2.2.1,.int .i64 w.2.2.2]):=by
    have:=rJ.load (P:=prog) Fc.ty93 hwi
    rw [this]
    simp only [encG,ek]
   obtain ⟨g,eg⟩:∃ g,g=gF M.L.length (M.G.take i):=⟨_,rfl⟩
   rw [← eg] at bJ
   obtain ⟨J1,eJ1⟩:∃ J1,J1=J++[(⟨.cells [.int .i64 (k:Int),.int .i64 w.2.1,.int .i64 w.2.2.1,.int .i64 w.2.2.2] 93 false false,0⟩:ABlk)]:=⟨_,rfl⟩
   have x1:Ext J J1:=by rw [eJ1];exact .app .refl
   have l1:J1.length=J.length+1:=by rw [eJ1];simp
   have w1:J1[J.length]?=some ⟨.cells [.int .i64 (k:Int),.int .i64 w.2.1,.int .i64 w.2.2.1,.int .i64 w.2.2.2] 93 false false,0⟩:=by rw [eJ1];exact get_eq rfl
   have sy:=fun base=>run_says (base:=base) (hD.ext (xJ.trans x1)) hwi okw
   obtain ⟨J2,eJ2⟩:∃ J2,J2=J1++[spX w.2.1 w.2.1]:=⟨_,rfl⟩
   have x2:Ext J1 J2:=by rw [eJ2];exact .app .refl
   have l2:J2.length=J.length+2:=by rw [eJ2];simp [l1]
   have s2:J2[J1.length]?=some (spX w.2.1 w.2.1):=by rw [eJ2];exact get_eq rfl
   have w2:=x2.get w1
   have f2:=(x1.trans x2).get (kJ.2 _ _ (by omega) fH)
   have b2:=(x1.trans x2).get bJ
   obtain ⟨J3,eJ3⟩:∃ J3,J3=J2++[rowB [w.2.1] 0]:=⟨_,rfl⟩
   have x3:Ext J2 J3:=by rw [eJ3];exact .app .refl
   have iR:Ints J3 (.slice (some ⟨J2.length,0,0⟩) 1 1) [w.2.1]:=by rw [eJ3];exact slice_row rfl rfl ⟨by simp,fun z hz=>by rw [List.mem_singleton] at hz;have:=okw.r;omega⟩
   have ls:=fun base=>run_sleast (base:=base) (n:=(g k).2) iR
   have b3:=x3.get b2
   have w3:=x3.get w2
   have l3:J3.length=J.length+3:=by rw [eJ3];simp [l2]
   have q1:=ld_lo (f:=g) hk12
   have q2:=ld_hi (f:=g) hk12
   have k12:((k:Int)<12)=True:=eq_true (by omega)
   have st:=fun (KK:ABlk→Heap)=>st_sp (f:=g) (i:=k) (base:=h.length) (id:=h.length+1+1) (K:=KK) (x:=max (g k).1 w.2.1) (y:=min (g k).2 w.2.1) hk12
   unfold spX at eJ2 s2
   have hsp:=@Nat.succ_ne_zero;repeat' (first|simp (disch:=first|exact dqb|fail) only [go_sem,↓reduceIte,hsp,d0,d3,d4,d5,d6,d28,d29,d30,p0,p3,p4,p5,p6,p16,p17,hlt2,a,dW,← eJ1,sy,← eJ2,f2,run_all1,w2,b2,q1,s2,q2,bsrI,← eJ3,ls,b3,st]|refine WP_drw ?_|refine cnd_intro (fun hsp=>?_) fun hsp=>?_)
   refine ⟨agq,by omega,(kJ.trans (.ofExt (x1.trans (x2.trans x3)))).set,?_⟩
   have e:gF M.L.length (M.G.take (i+1))=setF g k (max (g k).1 w.2.1,min (g k).2 w.2.1):=by
    rw [List.take_add_one,hwi]
    show gF _ (_++[w])=_
    rw [gF_snoc,← eg,ek,Int.toNat_natCast]
    rfl
   rw [e]
  ·rintro fr2 J hB ⟨d30,kJ,bJ⟩
   have d0:=hB 0 rfl
   have d3:=hB 3 rfl
   have d4:=hB 4 rfl
   have d5:=hB 5 rfl
   have d6:=hB 6 rfl
   have d28:=hB 28 rfl
   have d29:=hB 29 rfl
   try simp (disch:=first|exact dqb|fail) only [go_sem,↓reduceIte,p0,p3,p4,p5,p6] at d0 d3 d4 d5 d6 d28 d29
   have hlt2:((M.G.length:Int)<(M.G.length:Int))=False:=eq_false (by omega)
   rw [List.take_length] at bJ
   have xJ:Ext h J:=kJ.ext xH (by omega)
   have la:=ld_all (f:=gF M.L.length M.G)
   have ti:=fun base=>run_tight (base:=base) (hD.ext xJ) hw
   have rJ:=kJ.2 _ _ (by omega) rH
   have lrJ:=lt_of_get rJ
   obtain ⟨t,et⟩:∃ t,t=tgtF (gF M.L.length M.G) (W-S):=⟨_,rfl⟩
   rw [← et] at ti ⊢
   have sa1:=fun (KK:ABlk→Heap)=>st_all (f:=t) (base:=h.length) (id:=h.length+1) (K:=KK) z24
   have spa1:=fun (id:Nat) (h':Heap)=>stP_all (f:=t) (base:=h.length) (id:=id) (h:=h')
   have la1:=ld_all (f:=t)
   have hsp:=@Nat.succ_ne_zero;repeat' (first|simp (disch:=first|exact dqb|fail) only [go_sem,↓reduceIte,hsp,d0,d3,d4,d5,d6,d28,d29,d30,p0,p3,p4,p5,p6,p16,p17,hlt2,bJ,la,ti,rJ,spa1,sa1,la1]|refine WP_drw ?_|refine cnd_intro (fun hsp=>?_) fun hsp=>?_)
   have pl:plainL (ints (bdF t))=true:=plain_ints
   refine fin_pl rfl ?_ (xJ.set (Nat.le_succ _))
   simp [AVal.plain,plainL,pl]
end Go.AM
namespace Go.AM
open Go.Proofs.Tryz
attribute [-go_sem] put_ne put_same
attribute [local go_sem ↓] put_if
def spL (f:Nat→Int × Int) (n:Nat):List (Int × Int):=(List.range n).map f
theorem spL_len {f:Nat→Int × Int} {n:Nat}:(spL f n).length=n:=by simp [spL]
theorem flat_sp {f:Nat→Int × Int}:∀ n,n≤12→flat encS (spL f n)=(ints (bdF f)).take (n * 2)
 | 0,_=>by simp [spL,flat]
 | n+1,h=>by
  have ih:=flat_sp (f:=f) n (by omega)
  have h1:=ints_at (bdF_at (f:=f) (show n<12 by omega)).1
  have h2:=ints_at (bdF_at (f:=f) (show n<12 by omega)).2
  have e:spL f (n+1)=spL f n++[f n]:=by unfold spL;rw [List.range_succ,List.map_append];rfl
  rw [e,flat_app,ih,show (n+1) * 2=n * 2+1+1 by omega,List.take_add_one,List.take_add_one]
  rw [Nat.mul_comm n 2,h1,h2]
  simp [flat,encS]
set_option maxHeartbeats 1000000 in
theorem run_told {base:Nat} {h:Heap} {v:AVal} {M:Mil} {W S:Int} (hb:base≤h.length) (hM:MilAt h v M) (ok:MOk M) (hs:Star M) (hw:Wgd M.L.length (gF M.L.length M.G) W S) :
  Ret prog raw base (.fn 71 [] []) [v] h (fun w H=>Ext h H∧∃ id,w=.tuple [.ptr (some ⟨id,0,0⟩),.agg (ints (bdF (tgtF (gF M.L.length M.G) (W-S)))),.int .i64 0]∧DeskS H id M):=by
 have hM':=hM
 obtain ⟨lv,wv,rfl,hL,hG⟩:=hM'
 rw [ok.E] at hM ⊢
 have o1:=hL.one
 have o2:=hG.one
 have z24:(ints (lst (fun _=>(0:Int)) 24)).length=24:=by rw [ints_length,lst_len]
 obtain ⟨t,et⟩:∃ t,t=tgtF (gF M.L.length M.G) (W-S):=⟨_,rfl⟩
 obtain ⟨G,eG⟩:∃ G,G=h++[mlB 0 lv wv]++[(⟨.cells (ints (lst (fun _=>(0:Int)) 24)) 182 false false,0⟩:ABlk)]:=⟨_,rfl⟩
 have xG:Ext h G:=by rw [eG];exact .app (.app .refl)
 have lG:G.length=h.length+2:=by rw [eG];simp
 have g0:G[h.length]?=some (mlB 0 lv wv):=by rw [eG];exact get_app (get_eq rfl)
 have g1:G[h.length+1]?=some ⟨.cells (ints (lst (fun _=>(0:Int)) 24)) 182 false false,0⟩:=by rw [eG];exact get_eq (by simp)
 obtain ⟨_,H1,e1,x1,id,rfl,hD,hDW⟩:=run_sopened (base:=base) (h:=G) (by omega) (hM.ext xG) ok hs
 have l1:=x1.len
 have bo:=fun base=>run_sbounds (base:=base) hD ok hw
 rw [← et] at bo ⊢
 obtain ⟨H2,eH2⟩:∃ H2,H2=H1++[arB t]:=⟨_,rfl⟩
 have x2:Ext H1 H2:=by rw [eH2];exact .app .refl
 have b2:H2[H1.length]?=some (arB t):=by rw [eH2];exact get_eq rfl
 have r2:=(x1.trans x2).get g1
 have sa1:=fun (id:Nat) (KK:ABlk→Heap)=>st_all (f:=t) (base:=base) (id:=id) (K:=KK) z24
 have spa1:=fun (id:Nat) (h':Heap)=>stP_all (f:=t) (base:=base) (id:=id) (h:=h')
 have la1:=ld_all (f:=t)
 have lr:=lt_of_get r2
 unfold mlB at eG g0
 unfold arB at eH2
 refine ret_raw func71 rfl (by kernel_rfl) ?_
 have hsp:=@Nat.succ_ne_zero;repeat' (first|simp (disch:=first|exact dqb|fail) only [go_sem,↓reduceIte,hsp,← eG,g0,e1,run_sall,bo,spa1,sa1,← eH2,b2,la1,r2]|refine WP_drw ?_|refine cnd_intro (fun hsp=>?_) fun hsp=>?_)
 have xf:Ext h (H2.set (h.length+1) (arB t)):=(xG.trans (x1.trans x2)).set (by omega)
 refine ⟨xf,id,rfl,?_⟩
 have hDf:DeskW G.length (H2.set (h.length+1) (arB t)) id M (.agg [.int .i64 0,lv,wv]):=(hDW.ext x2).set (by omega)
 exact hDf.desk (hM.ext xf) ok.E (by have:=ok.n;omega)
theorem bd_slice {H:Heap} {id n:Nat} {f:Nat→Int × Int} (hg:H[id]?=some (arB f)) (hn:n≤12):Rows encS H (.slice (some ⟨id,0,0⟩) n 12) (spL f n):=by
 have hl:(ints (bdF f)).length=24:=by rw [ints_length,bdF_len]
 have e:=spL_len (f:=f) (n:=n)
 refine ⟨by omega,.inr (.inr ⟨⟨id,0,0⟩,12,_,_,_,_,by rw [e],hg,?_,?_,by omega⟩)⟩
 ·rw [List.drop_zero,e,flat_sp n hn]
  rfl
 ·rw [e,hl]
  show 0+n * 2≤24
  omega
set_option maxHeartbeats 1000000 in
theorem run_Bounds {base:Nat} {h:Heap} {v:AVal} {M:Mil} {W S:Int} (hb:base≤h.length) (hM:MilAt h v M) (ok:MOk M) (hs:Star M) (hw:Wgd M.L.length (gF M.L.length M.G) W S) :
  Ret prog raw base (.fn 24 [] []) [v] h (fun w H=>Ext h H∧∃ x,w=.tuple [x,.int .i64 0]∧Own encS 80 h.length H x (spL (tgtF (gF M.L.length M.G) (W-S)) M.L.length)):=by
 have hM':=hM
 obtain ⟨lv,wv,rfl,hL,hG⟩:=hM'
 rw [ok.E] at hM ⊢
 have o1:=hL.one
 have o2:=hG.one
 have b1:=ok.n
 have z24:(ints (lst (fun _=>(0:Int)) 24)).length=24:=by rw [ints_length,lst_len]
 obtain ⟨t,et⟩:∃ t,t=tgtF (gF M.L.length M.G) (W-S):=⟨_,rfl⟩
 obtain ⟨G,eG⟩:∃ G,G=h++[mlB 0 lv wv]:=⟨_,rfl⟩
 have xG:Ext h G:=by rw [eG];exact .app .refl
 have lG:G.length=h.length+1:=by rw [eG];simp
 have g0:G[h.length]?=some (mlB 0 lv wv):=by rw [eG];exact get_eq rfl
 obtain ⟨_,H1,e1,x1,id,rfl,hD⟩:=run_told (base:=base) (h:=G) (by omega) (hM.ext xG) ok hs hw
 rw [← et] at e1 ⊢
 have l1:=x1.len
 obtain ⟨H2,eH2⟩:∃ H2,H2=H1++[arB t]:=⟨_,rfl⟩
 have x2:Ext H1 H2:=by rw [eH2];exact .app .refl
 have b2:H2[H1.length]?=some (arB t):=by rw [eH2];exact get_eq rfl
 have l2:H2.length=H1.length+1:=by rw [eH2];simp
 have g2:=(x1.trans x2).get g0
 have nL:=(hL.ext (xG.trans (x1.trans x2))).len (P:=prog) Fc.el84
 have sa1:=fun (id:Nat) (KK:ABlk→Heap)=>st_all (f:=t) (base:=base) (id:=id) (K:=KK) z24
 have spa1:=fun (id:Nat) (h':Heap)=>stP_all (f:=t) (base:=base) (id:=id) (h:=h')
 have sl:sliceA prog 182 (.ptr (some ⟨H1.length,0,0⟩)) none (some (.int .i64 (M.L.length:Int))) none=some (.slice (some ⟨H1.length,0,0⟩) M.L.length 12):=by
  simp only [sliceA,Fc.ar182,optB,boundI (show (0:Int)≤(M.L.length:Int) by omega) (show (M.L.length:Int)≤((12:Nat):Int) by omega)]
  simp [ARef.add]
 have hne:spL t M.L.length ≠ []:=fun e=>by have:=spL_len (f:=t) (n:=M.L.length);rw [e] at this;simp at this;omega
 obtain ⟨u,H3,e3,x3,o3⟩:=run_cloneP (base:=base) (h:=H2) (by omega) (bd_slice b2 b1.2) hne (by rw [spL_len];omega)
 have ou:=o3.one
 unfold mlB at eG g0 g2
 unfold arB at eH2
 refine ret_raw func24 rfl (by kernel_rfl) ?_
 have hsp:=@Nat.succ_ne_zero;repeat' (first|simp (disch:=first|exact dqb|fail) only [go_sem,↓reduceIte,hsp,← eG,g0,e1,spa1,sa1,← eH2,g2,nL,sl,e3]|refine WP_drw ?_|refine cnd_intro (fun hsp=>?_) fun hsp=>?_)
 exact ⟨xG.trans (x1.trans (x2.trans x3)),u,rfl,o3.low (by omega)⟩
end Go.AM
namespace Go.AM
open Go.Proofs.Tryz
attribute [-go_sem] put_ne put_same
attribute [local go_sem ↓] put_if
def kdM (M:Mil) (p:Nat):Int:=(M.L.getD p (0,0)).2
def sS (M:Mil) (t:Nat→Int × Int) (ch:Int→Bool):Nat→Int
 | 0=>0
 | k+1=>sS M t ch k+if ch (kdM M (k+1))=true then (t (k+1)).1 else 0
def sR (M:Mil) (t:Nat→Int × Int) (ch:Int→Bool):Nat→Int
 | 0=>0
 | k+1=>sR M t ch k+if ch (kdM M (k+1))=true then 0 else (t (k+1)).2
def Ch (h:Heap) (g:AVal) (ch:Int→Bool):Prop:=One g∧∀ base K k,Ext h K→callL prog raw base g [.int .i64 k] K=some (.bool (ch k),K)
theorem Ch.ext {h H:Heap} {g:AVal} {ch:Int→Bool} (x:Ch h g ch) (e:Ext h H):Ch H g ch:=⟨x.1,fun base K k y=>x.2 base K k (e.trans y)⟩
set_option maxHeartbeats 1000000 in
theorem run_leaf {base id p:Nat} {h:Heap} {M:Mil} {t:Nat→Int × Int} {g:AVal} {ch:Int→Bool} (hD:DeskS h id M) (ok:MOk M) (hg:Ch h g ch) (hp:1≤p∧p<M.L.length) :
  callL prog raw base (.fn 73 [] []) [.ptr (some ⟨id,0,0⟩),.agg (ints (bdF t)),.int .i64 (p:Int),g] h=some (.tuple [.int .i64 (if ch (kdM M p)=true then (t p).1 else 0),.int .i64 (if ch (kdM M p)=true then 0 else (t p).2)],h):=by
 have b1:=ok.n
 have hp12:p<12:=by omega
 have og:=hg.1
 obtain ⟨lv,wv,m,es,dg,dm,dL,_,_,_,hno⟩:=hD
 have olv:=dL.one
 obtain ⟨G,eG⟩:∃ G,G=h++[arB t]:=⟨_,rfl⟩
 have xG:Ext h G:=by rw [eG];exact .app .refl
 have bG:G[h.length]?=some (arB t):=by rw [eG];exact get_eq rfl
 have dG:=xG.get dg
 have mG:=xG.get dm
 have lk:=look_S (k:=(p:Int)) mG
 rw [hno (p:Int) (by omega)] at lk
 have rL:=dL.ext xG
 have a:=rL.addr (P:=prog) (i:=(p:Int)) Fc.el84 Fc.ar84 (by omega) (by omega)
 rw [Int.toNat_natCast] at a
 have f1:fieldAddrA prog 83 (elAdr lv encS.z p 0) 1=some (elAdr lv encS.z p 1):=elAdr_field (P:=prog) (o:=0) (off:=1) (q:=false) (n:=1) rL hp.2 (by kernel_rfl) (by decide)
 have d:loadP prog G 81 (elAdr lv encS.z p 1)=some (.int .i64 (kdM M p)):=by
  unfold kdM
  rw [getD_at hp.2]
  exact rL.cell Fc.ty81 (List.getElem?_eq_getElem hp.2) rfl
 have cc:=fun base=>hg.2 base G (kdM M p) xG
 have q1:=ld_lo (f:=t) hp12
 have q2:=ld_hi (f:=t) hp12
 have p12:((p:Int)<12)=True:=eq_true (by omega)
 unfold dkB at dG
 unfold arB at eG
 cases hc:ch (kdM M p) with
 | true =>
  rw [hc] at cc
  refine callL_run func73 rfl rfl ?_
  have hsp:=@Nat.succ_ne_zero;repeat' (first|simp (disch:=first|exact dqb|fail) only [go_sem,↓reduceIte,hsp,← eG,dG,lk,a,f1,d,cc,bG,q1]|refine WP_drw ?_|refine cnd_intro (fun hsp=>?_) fun hsp=>?_)
  exact fin_pl rfl rfl xG
 | false =>
  rw [hc] at cc
  refine callL_run func73 rfl rfl ?_
  have hsp:=@Nat.succ_ne_zero;repeat' (first|simp (disch:=first|exact dqb|fail) only [go_sem,↓reduceIte,hsp,← eG,dG,lk,a,f1,d,cc,bG,q2]|refine WP_drw ?_|refine cnd_intro (fun hsp=>?_) fun hsp=>?_)
  exact fin_pl rfl rfl xG
theorem sSR_bd {M:Mil} {t:Nat→Int × Int} {ch:Int→Bool} (ht:∀ p,1≤p→p<12→0≤(t p).1∧(t p).1≤10000∧0≤(t p).2∧(t p).2≤10000):∀ k,k<12→(0≤sS M t ch k∧sS M t ch k≤10000 * k)∧0≤sR M t ch k∧sR M t ch k≤10000 * k
 | 0,_=>by simp [sS,sR]
 | k+1,h=>by
  have:=sSR_bd (M:=M) (ch:=ch) ht k (by omega)
  have:=ht (k+1) (by omega) h
  rw [sS,sR]
  split<;>omega
set_option maxHeartbeats 2000000 in
theorem run_shares {base id:Nat} {h:Heap} {M:Mil} {t:Nat→Int × Int} {g:AVal} {ch:Int→Bool} (hD:DeskS h id M) (ok:MOk M) (hg:Ch h g ch) (h2:2≤M.L.length) (ht:∀ p,p<12→0≤(t p).1∧(t p).1≤10000∧0≤(t p).2∧(t p).2≤10000) :
  callL prog raw base (.fn 73 [] []) [.ptr (some ⟨id,0,0⟩),.agg (ints (bdF t)),.int .i64 0,g] h =
   some (.tuple [.int .i64 (max (sS M t ch (M.L.length-1)) ((t 0).1-sR M t ch (M.L.length-1))),.int .i64 (min (sR M t ch (M.L.length-1)) ((t 0).2-sS M t ch (M.L.length-1)))],h):=by
 have b1:=ok.n
 have og:=hg.1
 have hD':=hD
 obtain ⟨lv,wv,m,es,dg,dm,dL,_,_,iB,hno⟩:=hD'
 have olv:=dL.one
 obtain ⟨G,eG⟩:∃ G,G=h++[arB t]:=⟨_,rfl⟩
 have xG:Ext h G:=by rw [eG];exact .app .refl
 have bG:G[h.length]?=some (arB t):=by rw [eG];exact get_eq rfl
 have dG:=xG.get dg
 have mG:=xG.get dm
 have lk:=look_S (k:=0) mG
 have iG:=iB.ext xG
 have oB:=iG.one
 have nB:=lenI iG
 rw [rng_len] at nB
 have t0:(((M.L.length-1:Nat):Int)=0)=False:=eq_false (by omega)
 have la:=ld_all (f:=t)
 unfold dkB at dG
 unfold arB at eG
 refine callL_run func73 rfl rfl ?_
 have hsp:=@Nat.succ_ne_zero;repeat' (first|simp (disch:=first|exact dqb|fail) only [go_sem,↓reduceIte,hsp,← eG,dG,lk,nB,t0]|refine WP_drw ?_|refine cnd_intro (fun hsp=>?_) fun hsp=>?_)
 refine WP_count [(8,13),(48,66)] 0 (M.L.length-1) (Nat.zero_le _) (fun _ j fr h'=>fr 48=.int .i64 (j:Int)∧fr 8=.int .i64 (sS M t ch j)∧fr 9=.int .i64 (sR M t ch j)∧h'=G) ?_ ?_ ?_
 ·exact ⟨by (simp (disch:=first|exact dqb|fail) only [go_sem,↓reduceIte,Int.natCast_zero];first|done|rfl),by simp (disch:=first|exact dqb|fail) only [go_sem,↓reduceIte];rfl,by simp (disch:=first|exact dqb|fail) only [go_sem,↓reduceIte];rfl,rfl⟩
 ·rintro j fr H hj0 hj hA ⟨p48,p8,p9,rfl⟩
  have p0:=hA 0 rfl
  have p2:=hA 2 rfl
  have p3:=hA 3 rfl
  have p5:=hA 5 rfl
  have p46:=hA 46 rfl
  have p47:=hA 47 rfl
  try simp (disch:=first|exact dqb|fail) only [go_sem,↓reduceIte] at p0 p2 p3 p5 p46 p47
  have hlt:((j:Int)<((M.L.length-1:Nat):Int))=True:=eq_true (by omega)
  have aB:=adrI (i:=(j:Int)) (by omega) iG (by rw [rng_len];omega)
  rw [Int.toNat_natCast] at aB
  have dB:loadP prog H 3 (elAddr (lkS es 0) j)=some (.int .i64 ((j+1:Nat):Int)):=by
   have:=loadI iG (i:=j) (by rw [rng_len];omega)
   rw [rng_at hj] at this
   exact this
  have lf:=fun base=>run_leaf (base:=base) (t:=t) (p:=j+1) (hD.ext xG) ok (hg.ext xG) (by omega)
  have bd:=sSR_bd (M:=M) (ch:=ch) (fun p _ hp=>ht p hp) j (by omega)
  have bd2:=ht (j+1) (by omega)
  have e1:sS M t ch (j+1)=sS M t ch j+if ch (kdM M (j+1))=true then (t (j+1)).1 else 0:=rfl
  have e2:sR M t ch (j+1)=sR M t ch j+if ch (kdM M (j+1))=true then 0 else (t (j+1)).2:=rfl
  obtain ⟨x,ex⟩:∃ x,x=(if ch (kdM M (j+1))=true then (t (j+1)).1 else 0):=⟨_,rfl⟩
  obtain ⟨y,ey⟩:∃ y,y=(if ch (kdM M (j+1))=true then 0 else (t (j+1)).2):=⟨_,rfl⟩
  rw [← ex] at e1
  rw [← ey] at e2
  rw [← ex,← ey] at lf
  have hx:0≤x∧x≤10000:=by rw [ex];split<;>omega
  have hy:0≤y∧y≤10000:=by rw [ey];split<;>omega
  have hsp:=@Nat.succ_ne_zero;repeat' (first|simp (disch:=first|exact dqb|fail) only [go_sem,↓reduceIte,hsp,p0,p2,p3,p5,p46,p47,p48,p8,p9,hlt,aB,dB,bG,la,lf]|refine WP_drw ?_|refine cnd_intro (fun hsp=>?_) fun hsp=>?_)
  exact ⟨agq,by omega,by rw [e1],by rw [e2]⟩
 ·rintro fr H hA ⟨p48,p8,p9,rfl⟩
  have p0:=hA 0 rfl
  have p2:=hA 2 rfl
  have p3:=hA 3 rfl
  have p5:=hA 5 rfl
  have p46:=hA 46 rfl
  have p47:=hA 47 rfl
  try simp (disch:=first|exact dqb|fail) only [go_sem,↓reduceIte] at p0 p2 p3 p5 p46 p47
  have hlt:(((M.L.length-1:Nat):Int)<((M.L.length-1:Nat):Int))=False:=eq_false (by omega)
  have bd:=sSR_bd (M:=M) (ch:=ch) (fun p _ hp=>ht p hp) (M.L.length-1) (by omega)
  have bd2:=ht 0 (by omega)
  have q1:ldB (some (false,1)) (some (arB t)) 0 0=some (.int .i64 (t 0).1):=ld_lo (f:=t) (i:=0) (by omega)
  have q2:ldB (some (false,1)) (some (arB t)) 0 1=some (.int .i64 (t 0).2):=ld_hi (f:=t) (i:=0) (by omega)
  obtain ⟨a,ea⟩:∃ a,a=sS M t ch (M.L.length-1):=⟨_,rfl⟩
  obtain ⟨b,eb⟩:∃ b,b=sR M t ch (M.L.length-1):=⟨_,rfl⟩
  rw [← ea] at p8 bd ⊢
  rw [← eb] at p9 bd ⊢
  obtain ⟨K,eK⟩:∃ K,K=H++[rowB [(t 0).2-a] 0]:=⟨_,rfl⟩
  have iR:Ints K (.slice (some ⟨H.length,0,0⟩) 1 1) [(t 0).2-a]:=by rw [eK];exact slice_row rfl rfl ⟨by simp,fun z hz=>by rw [List.mem_singleton] at hz;omega⟩
  have ls:=fun base=>run_sleast (base:=base) (n:=b) iR
  have bK:K[h.length]?=some (arB t):=by rw [eK];exact get_app bG
  have hsp:=@Nat.succ_ne_zero;repeat' (first|simp (disch:=first|exact dqb|fail) only [go_sem,↓reduceIte,hsp,p0,p2,p3,p5,p46,p47,p48,p8,p9,hlt,bG,q1,q2,bsrI,← eK,ls,bK]|refine WP_drw ?_|refine cnd_intro (fun hsp=>?_) fun hsp=>?_)
  exact fin_pl rfl rfl (xG.trans (by rw [eK];exact .app .refl))
end Go.AM
namespace Go.AM
open Go.Proofs.Tryz
attribute [-go_sem] put_ne put_same
attribute [local go_sem ↓] put_if
theorem run_wh1 {base kb:Nat} {h:Heap} {a k:Int} (hg:h[kb]?=some ⟨.cells [.int .i64 a] 81 false false,0⟩):callL prog raw base (.fn 74 [] [.ptr (some ⟨kb,0,0⟩)]) [.int .i64 k] h=some (.bool (decide (k=a)),h):=by
 refine callL_run func74 rfl rfl ?_
 have hsp:=@Nat.succ_ne_zero;repeat' (first|simp (disch:=first|exact dqb|fail) only [go_sem,↓reduceIte,hsp,hg]|refine WP_drw ?_|refine cnd_intro (fun hsp=>?_) fun hsp=>?_)
 exact fB rfl
theorem run_wh2 {base kb:Nat} {h:Heap} {a k:Int} (hg:h[kb]?=some ⟨.cells [.int .i64 a] 81 false false,0⟩):callL prog raw base (.fn 75 [] [.ptr (some ⟨kb,0,0⟩)]) [.int .i64 k] h=some (.bool (decide (¬ k=a)),h):=by
 refine callL_run func75 rfl rfl ?_
 have hsp:=@Nat.succ_ne_zero;repeat' (first|simp (disch:=first|exact dqb|fail) only [go_sem,↓reduceIte,hsp,hg]|refine WP_drw ?_|refine cnd_intro (fun hsp=>?_) fun hsp=>?_)
 exact fB (by first|rfl|simp)
def Knd (M:Mil):Prop:=kdM M 1=3∧∀ p,2≤p→p<M.L.length→kdM M p=2
theorem sSR_is {M:Mil} {t:Nat→Int × Int} {W S:Int} {ch:Int→Bool} (hw:Wgd M.L.length t W S) (h1:t 1=(W-S,W-S)) (hk:Knd M):∀ k,1≤k→k<M.L.length →
  sS M t ch k=(if ch 3=true then W-S else 0)+(if ch 2=true then suL t k-(t 1).1 else 0)∧sR M t ch k=(if ch 3=true then 0 else W-S)+(if ch 2=true then 0 else suL t k-(t 1).1)
 | 0,h,_=>by omega
 | k+1,_,h=>by
  by_cases e:k=0
  ·subst e
   simp only [sS,sR,suL,hk.1,h1]
   constructor
   ·split<;>split<;>omega
   ·split<;>split<;>omega
  ·obtain ⟨q1,q2⟩:=sSR_is (ch:=ch) hw h1 hk k (by omega) (by omega)
   have r:=hw.r (k+1) (by omega) h
   rw [sS,sR,q1,q2,hk.2 (k+1) (by omega) h,suL,r.1]
   constructor
   ·split<;>split<;>omega
   ·split<;>split<;>omega
set_option maxHeartbeats 2000000 in
theorem run_Where {base:Nat} {h:Heap} {v:AVal} {M:Mil} {W S kd:Int} (hM:MilAt h v M) (ok:MOk M) (hs:Star M) (hw:Wgd M.L.length (gF M.L.length M.G) W S) (hS:0≤S) (hk:Knd M) (hkd:kd=3 ∨ kd=2) :
  callL prog raw base (.fn 25 [] []) [v,.int .i64 kd] h=some (.tuple [.agg [.int .i64 (if kd=3 then W-S else S),.int .i64 (if kd=3 then W-S else S)],.int .i64 0],h):=by
 have hM':=hM
 obtain ⟨lv,wv,rfl,hL,hG⟩:=hM'
 rw [ok.E] at hM ⊢
 have o1:=hL.one
 have o2:=hG.one
 have b1:=ok.n
 have hn:=hw.nn
 have z24:(ints (lst (fun _=>(0:Int)) 24)).length=24:=by rw [ints_length,lst_len]
 obtain ⟨t,et⟩:∃ t,t=tgtF (gF M.L.length M.G) (W-S):=⟨_,rfl⟩
 have hwt:Wgd M.L.length t W S:=by rw [et];exact hw.next
 have t1:t 1=(W-S,W-S):=by rw [et];unfold tgtF;rw [if_pos rfl]
 have tz:=hwt.z
 have hsu:=hwt.s
 have ha:=hwt.a
 have hc:=hwt.c
 have hW:=hwt.w
 obtain ⟨G,eG⟩:∃ G,G=h++[mlB 0 lv wv]++[(⟨.cells [.int .i64 kd] 81 false false,0⟩:ABlk)]++[spX 0 0]:=⟨_,rfl⟩
 have xG:Ext h G:=by rw [eG];exact .app (.app (.app .refl))
 have lG:G.length=h.length+3:=by rw [eG];simp
 have g0:G[h.length]?=some (mlB 0 lv wv):=by rw [eG];exact get_app (get_app (get_eq rfl))
 have gk:G[h.length+1]?=some ⟨.cells [.int .i64 kd] 81 false false,0⟩:=by rw [eG];exact get_app (get_eq (by simp))
 have gr:G[h.length+1+1]?=some (spX 0 0):=by rw [eG];exact get_eq (by simp)
 have ck:=fun base=>run_sCheck (base:=base) (hM.ext xG) ok
 have al:=fun base H=>run_allowed (base:=base) (h:=H) (k:=kd) (by omega)
 obtain ⟨_,H1,e1,x1,id,rfl,hD⟩:=run_told (base:=h.length) (h:=G) (by omega) (hM.ext xG) ok hs hw
 rw [← et] at e1
 have l1:=x1.len
 obtain ⟨H2,eH2⟩:∃ H2,H2=H1++[arB t]:=⟨_,rfl⟩
 have x2:Ext H1 H2:=by rw [eH2];exact .app .refl
 have b2:H2[H1.length]?=some (arB t):=by rw [eH2];exact get_eq rfl
 have l2:H2.length=H1.length+1:=by rw [eH2];simp
 obtain ⟨H3,eH3⟩:∃ H3,H3=H2++[spX 0 0]:=⟨_,rfl⟩
 have x3:Ext H2 H3:=by rw [eH3];exact .app .refl
 have l3:H3.length=H1.length+2:=by rw [eH3];simp [l2]
 have s3:H3[H2.length]?=some (spX 0 0):=by rw [eH3];exact get_eq rfl
 have b3:=x3.get b2
 have k3:=(x1.trans (x2.trans x3)).get gk
 have hD3:=hD.ext (x2.trans x3)
 have hD3':=hD3
 obtain ⟨lv2,wv2,m,es,dg,dm,_,_,iA,_,_⟩:=hD3'
 have lk:=look_S (k:=-1) dm
 have oA:=iA.one
 have nA:lenOpA prog H3 35 (lkS es (-1))=some (.int .i64 1):=lenI iA
 have aA:=adrI (i:=0) (by omega) iA (by simp)
 have dA:loadP prog H3 3 (elAddr (lkS es (-1)) (0:Int).toNat)=some (.int .i64 0):=loadI iA (i:=0) (by simp)
 have z0:((0:Int)<1)=True:=eq_true (by omega)
 have z1:((1:Int)<1)=False:=eq_false (by omega)
 have ht:∀ p,p<12→0≤(t p).1∧(t p).1≤10000∧0≤(t p).2∧(t p).2≤10000:=fun p hp=>by have:=hwt.bd hp;omega
 have sh1:=fun base=>run_shares (base:=base) (t:=t) (g:=.fn 74 [] [.ptr (some ⟨h.length+1,0,0⟩)]) (ch:=fun k=>decide (k=kd)) hD3 ok ⟨⟨rfl,rfl,rfl⟩,fun base K k e=>run_wh1 (e.get k3)⟩ hn.1 ht
 have sh2:=fun base=>run_shares (base:=base) (t:=t) (g:=.fn 75 [] [.ptr (some ⟨h.length+1,0,0⟩)]) (ch:=fun k=>decide (¬ k=kd)) hD3 ok ⟨⟨rfl,rfl,rfl⟩,fun base K k e=>run_wh2 (e.get k3)⟩ hn.1 ht
 obtain ⟨p1,p2⟩:=sSR_is (ch:=fun k=>decide (k=kd)) hwt t1 hk (M.L.length-1) (by omega) (by omega)
 obtain ⟨p3,p4⟩:=sSR_is (ch:=fun k=>decide (¬ k=kd)) hwt t1 hk (M.L.length-1) (by omega) (by omega)
 rw [p1,p2,tz,hsu] at sh1
 rw [p3,p4,tz,hsu] at sh2
 simp only [decide_eq_true_eq] at sh1 sh2
 have la1:=ld_all (f:=t)
 have sa1:=fun (id:Nat) (KK:ABlk→Heap)=>st_all (f:=t) (base:=h.length) (id:=id) (K:=KK) z24
 have spa1:=fun (id:Nat) (h':Heap)=>stP_all (f:=t) (base:=h.length) (id:=id) (h:=h')
 have r3:=(x1.trans (x2.trans x3)).get gr
 obtain ⟨V,eV⟩:∃ V,V=(if kd=3 then W-S else S):=⟨_,rfl⟩
 have v1:max ((if (3:Int)=kd then W-S else 0)+(if (2:Int)=kd then S else 0)) (W-((if (3:Int)=kd then 0 else W-S)+(if (2:Int)=kd then 0 else S)))=V:=by
  rw [eV];rcases hkd with rfl|rfl<;>simp<;>omega
 have v2:min ((if ¬ (3:Int)=kd then 0 else W-S)+(if ¬ (2:Int)=kd then 0 else S)) (W-((if ¬ (3:Int)=kd then W-S else 0)+(if ¬ (2:Int)=kd then S else 0)))=V:=by
  rw [eV];rcases hkd with rfl|rfl<;>simp<;>omega
 have hV:0≤V∧V≤100:=by rw [eV];split<;>omega
 rw [v1] at sh1
 rw [v2] at sh2
 rw [← eV]
 have e0:(0:Int)+V=V:=Int.zero_add V
 have lr:=lt_of_get r3
 have gz:([0]:List Int).getD 0 0=0:=rfl
 unfold mlB spX at eG
 unfold mlB at g0
 unfold spX at eH3 s3 r3 gr
 unfold arB at eH2
 unfold dkB at dg
 refine callL_run func25 rfl rfl ?_
 have hsp:=@Nat.succ_ne_zero;repeat' (first|simp (disch:=first|exact dqb|fail) only [go_sem,↓reduceIte,hsp,← eG,g0,ck,gk,al,e1,spa1,sa1,← eH2,← eH3,dg,lk,nA]|refine WP_drw ?_|refine cnd_intro (fun hsp=>?_) fun hsp=>?_)
 rw [WP_loop1]
 have hsp:=@Nat.succ_ne_zero;repeat' (first|simp (disch:=first|exact dqb|fail) only [go_sem,↓reduceIte,hsp,z0,aA,dA,gz,b3,la1,sh1,sh2,s3,e0]|refine WP_drw ?_|refine cnd_intro (fun hsp=>?_) fun hsp=>?_)
 rw [WP_loop1]
 obtain ⟨H4,eH4⟩:∃ H4,H4=H3.set H2.length (spX V V):=⟨_,rfl⟩
 have s4:H4[H2.length]?=some (spX V V):=by rw [eH4,List.getElem?_set_self (by omega)]
 have r4:H4[h.length+1+1]?=some (spX 0 0):=by rw [eH4,List.getElem?_set_ne (by omega)];exact r3
 have x4:Ext h H4:=by rw [eH4];exact (xG.trans (x1.trans (x2.trans x3))).set (by omega)
 have lr4:=lt_of_get r4
 unfold spX at eH4 s4 r4
 have hsp:=@Nat.succ_ne_zero;repeat' (first|simp (disch:=first|exact dqb|fail) only [go_sem,↓reduceIte,hsp,z1,← eH4,s4,r4]|refine WP_drw ?_|refine cnd_intro (fun hsp=>?_) fun hsp=>?_)
 exact fin_pl rfl rfl (x4.set (by omega))
end Go.AM
