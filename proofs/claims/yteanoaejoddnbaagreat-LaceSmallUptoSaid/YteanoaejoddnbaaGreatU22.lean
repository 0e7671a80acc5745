/-
  The reference: all orders, those that explain the rows.
-/
import Derived.Test.YteanoaejoddnbaaGreatU21
import Derived.Test.YteanoaejoddnbaaGreatU10
import Derived.Test.YteanoaejoddnbaaGreatU9
import Derived.Test.YteanoaejoddnbaaGreatU11
set_option linter.unusedSimpArgs false
set_option linter.unusedVariables false
namespace Go.AM
open Go.Proofs.Tryz
attribute [-go_sem] put_ne put_same
attribute [local go_sem ↓] put_if
section
variable {b:Nat} {H H':Heap} {v:AVal} {ts:List (List Int)}
def AllX (b e:Nat) (H:Heap) (v:AVal) (ts:List (List Int)):Prop:=∃ vs:List AVal,Own encZ 22 b H v vs∧vs.length=ts.length∧∀ (i:Nat) x t,vs[i]?=some x→ts[i]?=some t→OwnE encI 3 e H x t
theorem AllX.nil {e:Nat}:AllX b e H (.slice none 0 0) []:=⟨[],Own.nil,rfl,fun i x t q=>by simp at q⟩
theorem AllX.one {e:Nat} (x:AllX b e H v ts):One v:=by obtain ⟨vs,h1,_⟩:=x;exact h1.one
theorem AllX.ext {e:Nat} (x:AllX b e H v ts) (q:Ext H H'):AllX b e H' v ts:=by
 obtain ⟨vs,h1,h2,h3⟩:=x
 exact ⟨vs,h1.ext q,h2,fun i x t a c=>(h3 i x t a c).ext q⟩
theorem AllX.all {e c:Nat} (x:AllX b e H v ts) (h1:c≤b) (h2:c≤e):AllB c H v ts:=by
 obtain ⟨vs,k1,k2,k3⟩:=x
 exact ⟨vs,k1.low h1,k2,fun i x t a d=>(k3 i x t a d).low h2⟩
theorem AllX.app2 {A:Heap} {w x:AVal} {ms:List (List Int)} {base e b2:Nat} (y:AllX b e A w ts) (z:AllX b2 e A x ms) (hb:base≤b) (hbh:b≤A.length) (h0:0<ms.length) (hl:ts.length+ms.length≤100000000) :
  ∃ w' h',appendA prog base A 32 w x=some (w',h')∧AllX b e h' w' (ts++ms)∧A.length≤h'.length∧(∀ G,G.length≤b→Ext G A→Ext G h')∧One w':=by
 obtain ⟨vs,h1,h2,h3⟩:=y
 obtain ⟨us,k1,k2,k3⟩:=z
 obtain ⟨w',h',a1,a2,a3,a4,a5,a6⟩:=h1.appendRX (P:=prog) (base:=base) (t:=32) (k1.rows (by omega)) Fc.el32 encZ_sc hb hbh (by omega) (by omega)
 have a6:KeepO encZ 22 A h':=a6
 refine ⟨w',h',a1,⟨_,a2,by simp [h2,k2],fun i p q g1 g2=>?_⟩,a3,a4,a5⟩
 by_cases hi:i<vs.length
 ·rw [List.getElem?_append_left hi] at g1
  rw [List.getElem?_append_left (by omega)] at g2
  exact a6.ownE (h3 i p q g1 g2) (by decide)
 ·rw [List.getElem?_append_right (by omega)] at g1
  rw [List.getElem?_append_right (by omega),← h2] at g2
  exact a6.ownE (k3 _ p q g1 g2) (by decide)
theorem AllX.snoc {A:Heap} {w x:AVal} {t:List Int} {base e:Nat} (y:AllX b e A w ts) (hx:OwnE encI 3 e A x t) (hb:base≤b) (hbh:b≤A.length) (hl:ts.length≤10000000) :
  ∃ z A',(∀ {lit:Bool},lit=true→bsA prog lit A 32 1 [(0,x)]=some (z,A'))∧Ext A A'∧∃ w' h',appendA prog base A' 32 w z=some (w',h')∧AllX b e h' w' (ts++[t])∧A.length≤h'.length∧(∀ G,G.length≤b→Ext G A→Ext G h')∧One w':=by
 obtain ⟨vs,h1,h2,h3⟩:=y
 obtain ⟨z,A',a1,a2,w',h',a3,a4,a5,a6,a7,a8⟩:=snocZI (base:=base) h1 hx.one hb hbh (by omega)
 refine ⟨z,A',a1,a2,w',h',a3,⟨_,a4,by simp [h2],fun i p q g1 g2=>?_⟩,a5,a6,a7⟩
 by_cases hi:i<vs.length
 ·rw [List.getElem?_append_left hi] at g1
  rw [List.getElem?_append_left (by omega)] at g2
  exact a8.ownE (h3 i p q g1 g2) (by decide)
 ·rw [List.getElem?_append_right (by omega)] at g1
  rw [List.getElem?_append_right (by omega)] at g2
  have e0:i-vs.length=0:=by
   have:=(List.getElem?_eq_some_iff.1 g1).1
   simp at this;omega
  rw [e0] at g1
  rw [show i-ts.length=0 by omega] at g2
  cases g1;cases g2
  exact a8.ownE hx (by decide)
theorem AllB.at {A:Heap} (x:AllB b H v ts) (hl:ts.length<2 ^ 60) {i:Nat} {t:List Int} (ht:ts[i]?=some t) :
  ∃ a w,indexAddrA prog 32 v (.int .i64 (i:Int))=some a∧(∀ K,Ext H K→loadP prog K 22 a=some w)∧OwnE encI 3 b H w t:=by
 obtain ⟨vs,h1,h2,h3⟩:=x
 have hi:i<vs.length:=by rw [h2];exact (List.getElem?_eq_some_iff.1 ht).1
 have hv:vs[i]?=some vs[i]:=List.getElem?_eq_getElem hi
 have ho:=h3 i _ t hv ht
 have hR:=h1.rows (show vs.length<2 ^ 60 by omega)
 have ad:=hR.addr (P:=prog) (i:=(i:Int)) Fc.el32 Fc.ar32 (by omega) (by omega)
 rw [Int.toNat_natCast] at ad
 exact ⟨_,_,ad,fun K e=>(hR.ext e).cell (P:=prog) Fc.ty22 hv (o:=0) (a:=vs[i]) (by simp only [encZ,norm_one ho.one];rfl),ho⟩
end
theorem emp_clone {base:Nat} {A:Heap} {x:AVal} {l:List Int} (hI:Ints A x l) (hl:l.length≤1000):∃ w H,appendA prog base A 22 .emp x=some (w,H)∧Ext A H∧OwnE encI 3 A.length H w l∧One w:=by
 by_cases h0:l=[]
 ·subst h0
  exact ⟨.emp,A,app_none hI.rows Fc.el22,.refl,.inr ⟨rfl,rfl⟩,⟨rfl,rfl,rfl⟩⟩
 ·have:=app_empE (base:=base) hI.rows h0 encI_sc (by omega) Fc.el22
  exact ⟨_,_,this,.app .refl,.inl (.inr ⟨A.length,0,rfl,get_eq rfl,Nat.le_refl _,List.length_pos_iff.2 h0⟩),⟨rfl,rfl,rfl⟩⟩
theorem left_one {n:Nat} {l:List Int} (h:l.length<n):∃ k:Nat,k<n∧(k:Int) ∉ l:=by
 refine Classical.byContradiction fun q=>?_
 have:=pigeon (R:=fun (a b:Int)=>a=b) (l:=upto n) (t:=l) ((upto_sorted n).imp fun h=>by omega) (fun a ha=>?_) fun a _ c _ b _ h1 h2=>h1.trans h2.symm
 ·rw [upto_len] at this;omega
 ·have ha:=upto_mem.1 ha
  refine ⟨a,Classical.byContradiction fun hn=>q ⟨a.toNat,by omega,?_⟩,rfl⟩
  rw [Int.toNat_of_nonneg ha.1];exact hn
def allF (n d:Nat) (l:List Int) (k:Int):List (List Int):=if ((fun (_ _:Nat)=>true) l.length k.toNat && decide (k ∉ l))=true then ordsF (fun _ _=>true) n d (l++[k]) else []
theorem ordsF_all {n d:Nat} {l:List Int}:ordsF (fun _ _=>true) n (d+1) l=(upto n).flatMap (allF n d l):=rfl
theorem allF_in {n d:Nat} {l:List Int} {k:Int} (h:k ∉ l):allF n d l k=ordsF (fun _ _=>true) n d (l++[k]):=by unfold allF;simp [h]
theorem allF_no {n d:Nat} {l:List Int} {k:Int} (h:k ∈ l):allF n d l k=[]:=by unfold allF;simp [h]
theorem ords_some {n:Nat}:∀ {d:Nat} {l:List Int},l.length+d=n→ordsF (fun _ _=>true) n d l ≠ []
 | 0,l,_=>by simp [ordsF]
 | d+1,l,h=>by
  obtain ⟨k,hk,hn⟩:=left_one (n:=n) (l:=l) (by omega)
  have:=ords_some (n:=n) (d:=d) (l:=l++[(k:Int)]) (by simp;omega)
  rw [ordsF_all]
  intro q
  rw [List.flatMap_eq_nil_iff] at q
  have h2:=q (k:Int) (upto_mem.2 (by omega))
  rw [allF_in hn] at h2
  exact this h2
set_option maxRecDepth 100000 in
set_option maxHeartbeats 2000000 in
theorem run_Orders {base b n:Nat} (hb:base≤b) (hn:n≤7):∀ (d:Nat) {l:List Int} {lv:AVal} {h:Heap},l.length+d=n→l.Nodup→(∀ x ∈ l,0≤x∧x<(n:Int))→b≤h.length→OwnE encI 3 b h lv l →
  Ret prog raw base (.fn 6 [] []) [lv,.int .i64 (n:Int)] h (fun w H=>Ext h H∧AllX h.length b H w (ordsF (fun _ _=>true) n d l)):=by
 intro d
 induction d with
 | zero =>
  intro l lv h hl hnd hin hbh hO
  have ov:=hO.one
  have iL:=ownE_ints hO ⟨by omega,fun x hx=>by have:=hin x hx;omega⟩
  have hlo:=lenI iL
  have t1:((l.length:Int)=(n:Int))=True:=eq_true (by omega)
  have bs:bsA prog false h 32 1 [(0,lv)]=some (.slice (some ⟨h.length,0,0⟩) 1 1,h++[rowE encZ 22 [lv] 0]):=bsZI ov rfl
  refine ret_raw func6 rfl (by kernel_rfl) ?_
  have hsp:=@Nat.succ_ne_zero;repeat' (first|simp (disch:=first|exact dq|fail) only [go_sem,↓reduceIte,hsp,hlo,t1,bsZI]|refine WP_drw ?_|refine cnd_intro (fun hsp=>?_) fun hsp=>?_)
  refine ⟨.app .refl,[lv],.inr ⟨h.length,0,rfl,get_eq rfl,Nat.le_refl _,by simp⟩,rfl,fun i x t q1 q2=>?_⟩
  have hi:i=0:=by
   have:=(List.getElem?_eq_some_iff.1 q1).1
   simp at this;omega
  subst hi
  simp [ordsF] at q1 q2
  subst q1 q2
  exact hO.ext (.app .refl)
 | succ d ih =>
  intro l lv h hl hnd hin hbh hO
  have ov:=hO.one
  have iL:=ownE_ints hO ⟨by omega,fun x hx=>by have:=hin x hx;omega⟩
  have hlo:=lenI iL
  have t1:((l.length:Int)=(n:Int))=False:=eq_false (by omega)
  refine ret_raw func6 rfl (by kernel_rfl) ?_
  have hsp:=@Nat.succ_ne_zero;repeat' (first|simp (disch:=first|exact dq|fail) only [go_sem,↓reduceIte,hsp,hlo,t1]|refine WP_drw ?_|refine cnd_intro (fun hsp=>?_) fun hsp=>?_)
  refine WP_count [(5,32)] 0 n (Nat.zero_le _) (fun _ k fr K=>fr 6=.int .i64 (k:Int)∧Ext h K∧∃ u,fr 5=u∧AllX h.length b K u ((upto k).flatMap (allF n d l))∧((upto k).flatMap (allF n d l)).length≤k * 823543) ?_ ?_ ?_
  ·exact ⟨by (simp (disch:=first|exact dq|fail) only [go_sem,↓reduceIte,Int.natCast_zero];first|done|rfl),.refl,_,by simp (disch:=first|exact dq|fail) only [go_sem,↓reduceIte],AllX.nil,by simp [upto,lst]⟩
  ·rintro k fr K hk0 hk hA ⟨r6,xK,u,r5,hA5,hAl⟩
   have q0:=hA 0 rfl
   have q1:=hA 1 rfl
   have q4:=hA 4 rfl
   try simp (disch:=first|exact dq|fail) only [go_sem,↓reduceIte] at q0 q1 q4
   have hlt:((k:Int)<(n:Int))=True:=eq_true (by omega)
   have lK:=xK.len
   have ou:=hA5.one
   obtain ⟨cw,K1,e1,x1,o1,oc⟩:=emp_clone (base:=base) (iL.ext xK) (by omega)
   have l1:=x1.len
   obtain ⟨w',K2,e2,oW,lW,eW2,oneW,kW⟩:=OwnE.snocI (base:=base) (x:=(k:Int)) o1 (by omega) l1 (by omega)
   have x2:Ext K K2:=eW2 _ (Nat.le_refl _) x1
   have iW:Ints K2 w' (l++[(k:Int)]):=own_ints oW ⟨by simp;omega,fun x hx=>by
    rcases List.mem_append.1 hx with q|q
    ·have:=hin x q;omega
    ·rw [List.mem_singleton] at q;omega⟩
   have htw:=fun base=>run_rtwice (base:=base) iW
   have hup:(upto (k+1)).flatMap (allF n d l)=(upto k).flatMap (allF n d l)++allF n d l (k:Int):=by rw [upto_succ,List.flatMap_append];simp
   by_cases c:(k:Int) ∈ l
   ·have ht:twB (l++[(k:Int)])=true:=by
     unfold twB
     refine decide_eq_true ?_
     intro q
     exact (nodup_snoc.1 q).2 c
    rw [ht] at htw
    have hsp:=@Nat.succ_ne_zero;repeat' (first|simp (disch:=first|exact dq|fail) only [go_sem,↓reduceIte,hsp,r6,r5,q0,q1,q4,hlt,bs_emp Fc.el22,e1,e2,htw]|refine WP_drw ?_|refine cnd_intro (fun hsp=>?_) fun hsp=>?_)
    refine ⟨agq,by omega,xK.trans x2,u,rfl,?_,?_⟩
    ·rw [hup,allF_no c,List.append_nil];exact hA5.ext x2
    ·rw [hup,allF_no c,List.append_nil,Nat.succ_mul];exact Nat.le_trans hAl (Nat.le_add_right _ _)
   ·have ht:twB (l++[(k:Int)])=false:=by
     unfold twB
     refine decide_eq_false ?_
     intro q
     exact q (nodup_snoc.2 ⟨hnd,c⟩)
    rw [ht] at htw
    have hlk:(l++[(k:Int)]).length+d=n:=by simp;omega
    obtain ⟨x,K3,e3,x3,hX⟩:=ih (l:=l++[(k:Int)]) (lv:=w') (h:=K2) hlk (nodup_snoc.2 ⟨hnd,c⟩) (fun x hx=>by
     rcases List.mem_append.1 hx with q|q
     ·exact hin x q
     ·rw [List.mem_singleton] at q;omega) (by have:=x2.len;omega) (.inl (oW.low (by omega)))
    have ox:=hX.one
    have hfew:=ordsF_few (fit:=fun _ _=>true) (n:=n) (d:=d) (l:=l++[(k:Int)])
    have hp7:n ^ d≤823543:=Nat.le_trans (Nat.pow_le_pow_left hn _) (show 7 ^ d≤7 ^ 7 from Nat.pow_le_pow_right (by decide) (by omega))
    have hne:=ords_some hlk
    have hpos:0<(ordsF (fun _ _=>true) n d (l++[(k:Int)])).length:=List.length_pos_iff.2 hne
    have l3:=x3.len
    have l2:=x2.len
    obtain ⟨u',K4,e4,hB,l4,eE4,ou'⟩:=(hA5.ext (x2.trans x3)).app2 (base:=base) hX (by omega) (by omega) hpos (by omega)
    have hsp:=@Nat.succ_ne_zero;repeat' (first|simp (disch:=first|exact dq|fail) only [go_sem,↓reduceIte,hsp,r6,r5,q0,q1,q4,hlt,bs_emp Fc.el22,e1,e2,htw,e3,e4]|refine WP_drw ?_|refine cnd_intro (fun hsp=>?_) fun hsp=>?_)
    refine ⟨agq,by omega,eE4 h (Nat.le_refl _) (xK.trans (x2.trans x3)),u',rfl,?_,?_⟩
    ·rw [hup,allF_in c];exact hB
    ·rw [hup,allF_in c,List.length_append,Nat.succ_mul];omega
  ·rintro fr K hA ⟨r6,xK,u,r5,hA5,hAl⟩
   have q0:=hA 0 rfl
   have q1:=hA 1 rfl
   have q4:=hA 4 rfl
   try simp (disch:=first|exact dq|fail) only [go_sem,↓reduceIte] at q0 q1 q4
   have hlt:((n:Int)<(n:Int))=False:=eq_false (by omega)
   have ou:=hA5.one
   have hsp:=@Nat.succ_ne_zero;repeat' (first|simp (disch:=first|exact dq|fail) only [go_sem,↓reduceIte,hsp,r6,r5,q0,q1,q4,hlt]|refine WP_drw ?_|refine cnd_intro (fun hsp=>?_) fun hsp=>?_)
   exact ⟨xK,hA5⟩
theorem all_ord {n:Nat} {o:List Int} (h:o ∈ ordsF (fun _ _=>true) n n []):Ord n o:=by
 obtain ⟨s,h1,h2,h3,h4,_⟩:=(ordsF_mem (by simp)).1 h
 simp at h1
 subst h1
 exact ⟨h2,h3,h4⟩
set_option maxRecDepth 100000 in
set_option maxHeartbeats 2000000 in
theorem run_All {base:Nat} {h:Heap} {v:AVal} {L:Lac} (hb:base≤h.length) (hL:LacAt h v L) (hok:LacOk L) :
  Ret prog raw base (.fn 59 [] []) [v] h (fun w H=>Ext h H∧AllB h.length H w (fnd L)):=by
 have hL0:=hL
 obtain ⟨cv,rv,rfl,hC,hR⟩:=hL
 have o1:=hC.one
 have o2:=hR.one
 have hn:=hok.n
 obtain ⟨G,eG⟩:∃ G,G=h++[rcB L.T cv rv]:=⟨_,rfl⟩
 have xG:Ext h G:=by rw [eG];exact .app .refl
 have lG:G.length=h.length+1:=by rw [eG];simp
 have g0:G[h.length]?=some (rcB L.T cv rv):=by rw [eG];exact get_eq rfl
 have hn1:=lenI (hC.ext xG)
 obtain ⟨w1,H1,e1,x1,hA1⟩:=run_Orders (base:=base) (b:=h.length) (n:=L.C.length) hb hn.2 L.C.length (l:=[]) (lv:=.slice none 0 0) (h:=G) (by simp) (by simp) (by simp) (by omega) (.inl Own.nil)
 have hA1:=hA1.all (c:=h.length) (by omega) (Nat.le_refl _)
 have ow1:=hA1.one
 have xh1:=xG.trans x1
 have g1:=x1.get g0
 obtain ⟨os,eos⟩:∃ os,os=ordsF (fun _ _=>true) L.C.length L.C.length []:=⟨_,rfl⟩
 have hfew:=ordsF_few (fit:=fun _ _=>true) (n:=L.C.length) (d:=L.C.length) (l:=[])
 have hp7:L.C.length ^ L.C.length≤823543:=Nat.le_trans (Nat.pow_le_pow_left hn.2 _) (show 7 ^ L.C.length≤7 ^ 7 from Nat.pow_le_pow_right (by decide) hn.2)
 rw [← eos] at hA1 hfew
 have hfin:os.filter (fun o=>xplD L o o.length)=fnd L:=by
  rw [eos]
  refine all_fnd (p:=fun o=>xplD L o o.length) fun o ho=>xplD_iff
 have hword:∀ o ∈ os,Ord L.C.length o:=fun o ho=>all_ord (by rw [← eos];exact ho)
 have hll:∀ {H},Ext H1 H→lenOpA prog H 32 w1=some (.int .i64 (os.length:Int)):=fun {H} e=>(hA1.ext e).all.len (by omega)
 unfold rcB at eG g0 g1
 refine ret_raw func59 rfl (by kernel_rfl) ?_
 have hsp:=@Nat.succ_ne_zero;repeat' (first|simp (disch:=first|exact dq|fail) only [go_sem,↓reduceIte,hsp,← eG,g0,hn1,e1]|refine WP_drw ?_|refine cnd_intro (fun hsp=>?_) fun hsp=>?_)
 refine WP_count [(4,28)] 0 os.length (Nat.zero_le _) (fun _ i fr K=>fr 5=.int .i64 (i:Int)∧Ext H1 K∧∃ u,fr 4=u∧AllX H1.length h.length K u ((os.take i).filter fun o=>xplD L o o.length)) ?_ ?_ ?_
 ·exact ⟨by (simp (disch:=first|exact dq|fail) only [go_sem,↓reduceIte,Int.natCast_zero];first|done|rfl),.refl,_,by simp (disch:=first|exact dq|fail) only [go_sem,↓reduceIte],AllX.nil⟩
 ·rintro i fr K hi0 hi hA ⟨r5,xK,u,r4,hU⟩
  have q1:=hA 1 rfl
  have q2:=hA 2 rfl
  have q3:=hA 3 rfl
  try simp (disch:=first|exact dq|fail) only [go_sem,↓reduceIte] at q1 q2 q3
  have hlt:((i:Int)<(os.length:Int))=True:=eq_true (by omega)
  have lK:=(xh1.trans xK).len
  have lK1:=xK.len
  have lh1:=xh1.len
  have ou:=hU.one
  have hlK:=hll xK
  have gK:=xK.get g1
  obtain ⟨o,eo⟩:∃ o,o=os[i]:=⟨_,rfl⟩
  have hoi:os[i]?=some o:=by rw [eo];exact List.getElem?_eq_getElem hi
  have hoo:=hword o (List.mem_of_getElem? hoi)
  obtain ⟨a,w,ad,ld,ow⟩:=(hA1.ext xK).at (A:=K) (by omega) hoi
  have ld0:=ld K .refl
  have oww:=ow.one
  have hex:=fun base=>run_rexplains (base:=base) (hL0.ext (xh1.trans xK)) hok (ownE_ints ow (ord_small hoo (by omega))) hoo
  have htk:(os.take (i+1)).filter (fun o=>xplD L o o.length)=(os.take i).filter (fun o=>xplD L o o.length)++(if xplD L o o.length=true then [o] else []):=by
   rw [List.take_add_one,hoi,List.filter_append]
   simp only [Option.toList,List.filter_cons,List.filter_nil]
  cases c:xplD L o o.length with
  | true =>
   rw [c] at hex
   rw [c,if_pos rfl] at htk
   have hfl:((os.take i).filter fun o=>xplD L o o.length).length≤823543:=Nat.le_trans (List.length_filter_le _ _) (by rw [List.length_take];omega)
   obtain ⟨z,A',b1,xA,w',h',ea,aW,lW,eW,oneW⟩:=hU.snoc (base:=base) ow (by omega) (by omega) (by omega)
   have hsp:=@Nat.succ_ne_zero;repeat' (first|simp (disch:=first|exact dq|fail) only [go_sem,↓reduceIte,hsp,r5,r4,q1,q2,q3,hlt,hlK,gK,ad,ld0,hex,b1,ea]|refine WP_drw ?_|refine cnd_intro (fun hsp=>?_) fun hsp=>?_)
   exact ⟨agq,by omega,eW _ (Nat.le_refl _) xK,w',rfl,by rw [htk];exact aW⟩
  | false =>
   rw [c] at hex
   rw [c,if_neg (by simp),List.append_nil] at htk
   have hsp:=@Nat.succ_ne_zero;repeat' (first|simp (disch:=first|exact dq|fail) only [go_sem,↓reduceIte,hsp,r5,r4,q1,q2,q3,hlt,hlK,gK,ad,ld0,hex]|refine WP_drw ?_|refine cnd_intro (fun hsp=>?_) fun hsp=>?_)
   exact ⟨agq,by omega,xK,u,rfl,by rw [htk];exact hU⟩
 ·rintro fr K hA ⟨r5,xK,u,r4,hU⟩
  have q1:=hA 1 rfl
  have q2:=hA 2 rfl
  have q3:=hA 3 rfl
  try simp (disch:=first|exact dq|fail) only [go_sem,↓reduceIte] at q1 q2 q3
  have hlt:((os.length:Int)<(os.length:Int))=False:=eq_false (by omega)
  have ou:=hU.one
  have hlK:=hll xK
  rw [List.take_length,hfin] at hU
  have hsp:=@Nat.succ_ne_zero;repeat' (first|simp (disch:=first|exact dq|fail) only [go_sem,↓reduceIte,hsp,r5,r4,q1,q2,q3,hlt,hlK]|refine WP_drw ?_|refine cnd_intro (fun hsp=>?_) fun hsp=>?_)
  exact ⟨xh1.trans xK,hU.all xh1.len (Nat.le_refl _)⟩
end Go.AM
namespace Go.AM
open Go.Proofs.Tryz
attribute [-go_sem] put_ne put_same
attribute [local go_sem ↓] put_if
def kvR (os:List (List Int)) (i q:Nat):Int:=if ((os.take i).all fun x=>decide (x.getD q 0=(os.headD []).getD q 0))=true then (os.headD []).getD q 0 else -1
def knS (n:Nat) (os:List (List Int)) (i p:Nat):List Int:=lst (fun q=>if q<p then kvR os (i+1) q else kvR os i q) n
theorem knS_len {n:Nat} {os:List (List Int)} {i p:Nat}:(knS n os i p).length=n:=lst_len
theorem knS_at {n:Nat} {os:List (List Int)} {i p:Nat} (hp:p<n):(knS n os i p).getD p 0=kvR os i p:=by
 unfold knS;rw [lst_get hp,if_neg (by omega)]
theorem knS_set {n:Nat} {os:List (List Int)} {i p:Nat} {x:Int} (hp:p<n) (hx:x=kvR os (i+1) p):(knS n os i p).set p x=knS n os i (p+1):=by
 unfold knS
 rw [lst_set hp]
 refine lst_congr fun q hq=>?_
 by_cases e:q=p
 ·subst e;rw [if_pos rfl,if_pos (by omega),hx]
 ·rw [if_neg e]
  by_cases c:q<p
  ·rw [if_pos c,if_pos (by omega)]
  ·rw [if_neg c,if_neg (by omega)]
theorem knS_same {n:Nat} {os:List (List Int)} {i p:Nat} (hp:p<n) (hx:kvR os i p=kvR os (i+1) p):knS n os i p=knS n os i (p+1):=by
 unfold knS
 refine lst_congr fun q hq=>?_
 by_cases e:q=p
 ·subst e;rw [if_neg (by omega),if_pos (by omega),hx]
 ·by_cases c:q<p
  ·rw [if_pos c,if_pos (by omega)]
  ·rw [if_neg c,if_neg (by omega)]
theorem knS_next {n:Nat} {os:List (List Int)} {i:Nat}:knS n os i n=knS n os (i+1) 0:=by
 unfold knS
 exact lst_congr fun q hq=>by rw [if_pos hq,if_neg (by omega)]
theorem knS_zero {n:Nat} {os:List (List Int)} (h:(os.headD []).length=n):knS n os 0 0=os.headD []:=by
 refine lst_ext (by rw [knS_len,h]) fun q hq=>?_
 rw [knS_len] at hq
 unfold knS
 rw [lst_get hq,if_neg (by omega)]
 unfold kvR
 rw [List.take_zero,if_pos (by simp)]
theorem knS_all {n:Nat} {os:List (List Int)}:knS n os os.length 0=knwL n os:=by
 unfold knS knwL
 refine lst_congr fun q hq=>?_
 rw [if_neg (by omega)]
 unfold kvR
 rw [List.take_length]
theorem kvR_step {os:List (List Int)} {i q:Nat} {o:List Int} (ho:os[i]?=some o) (h0:0≤o.getD q 0):(kvR os i q=o.getD q 0→kvR os (i+1) q=kvR os i q)∧(kvR os i q ≠ o.getD q 0→kvR os (i+1) q=-1):=by
 have ht:((os.take (i+1)).all fun x=>decide (x.getD q 0=(os.headD []).getD q 0))=(((os.take i).all fun x=>decide (x.getD q 0=(os.headD []).getD q 0)) && decide (o.getD q 0=(os.headD []).getD q 0)):=by
  rw [List.take_add_one,ho,List.all_append];simp
 unfold kvR
 rw [ht]
 cases c:((os.take i).all fun x=>decide (x.getD q 0=(os.headD []).getD q 0)) with
 | false=>simp only [Bool.false_and,Bool.false_eq_true,if_false];exact ⟨fun _=>trivial,fun _=>trivial⟩
 | true =>
  simp only [Bool.true_and,if_true,decide_eq_true_eq]
  constructor
  ·intro e;rw [if_pos e.symm]
  ·intro e;rw [if_neg (fun q=>e q.symm)]
set_option maxHeartbeats 2000000 in
theorem run_rknown {base b n:Nat} {h:Heap} {v:AVal} {os:List (List Int)} (hb:base≤h.length) (hA:AllB b h v os) (hn:1≤n∧n≤7) (hl:os.length≤823543) (h0:os ≠ []) (ho:∀ o ∈ os,Ord n o) :
  Ret prog raw base (.fn 60 [] []) [v] h (fun w H=>Ext h H∧Own encI 3 h.length H w (knwL n os)):=by
 have ov:=hA.one
 have hpos:0<os.length:=List.length_pos_iff.2 h0
 obtain ⟨o0,e0⟩:∃ o0,o0=os.headD []:=⟨_,rfl⟩
 have hh:os[0]?=some o0:=by rw [e0];exact head_at h0
 have ho0:=ho o0 (List.mem_of_getElem? hh)
 obtain ⟨a0,w0,ad0,ld0,ow0⟩:=hA.at (A:=h) (by omega) hh
 have d0:=ld0 h .refl
 have oww:=ow0.one
 have i0:=ownE_ints ow0 (ord_small ho0 (by omega))
 have hne:o0 ≠ []:=fun q=>by have:=ho0.1;rw [q] at this;simp at this;omega
 have hap:=app_empE (base:=base) (h:=h) i0.rows hne encI_sc (by have:=ho0.1;omega) Fc.el22
 rw [ho0.1,rowE,flat_encI] at hap
 have hz:=knS_zero (n:=n) (os:=os) (by rw [← e0];exact ho0.1)
 rw [← e0] at hz
 rw [← hz] at hap
 obtain ⟨G,eG⟩:∃ G,G=h++[srB (knS n os 0 0) 3 0]:=⟨_,rfl⟩
 have hap':appendA prog base h 22 .emp w0=some (.slice (some ⟨h.length,0,0⟩) n n,G):=by rw [hap,eG]
 have hlx:∀ {H},Ext h H→lenOpA prog H 32 v=some (.int .i64 (os.length:Int)):=fun {H} e=>(hA.ext e).all.len (by omega)
 have n1:∀ {H:Heap},lenOpA prog H 22 (.slice (some ⟨h.length,0,0⟩) n n)=some (.int .i64 (n:Int)):=fun {H}=>by simp [lenOpA,Fc.el22,lenA]
 rw [Int.natCast_zero] at ad0
 refine ret_raw func60 rfl (by kernel_rfl) ?_
 have hsp:=@Nat.succ_ne_zero;repeat' (first|simp (disch:=first|exact dq|fail) only [go_sem,↓reduceIte,hsp,bs_emp Fc.el22,ad0,d0,hap']|refine WP_drw ?_|refine cnd_intro (fun hsp=>?_) fun hsp=>?_)
 refine WP_count [(4,37)] 0 os.length (Nat.zero_le _) (fun _ i fr H=>fr 4=.int .i64 (i:Int)∧H=h++[srB (knS n os i 0) 3 0]) ?_ ?_ ?_
 ·exact ⟨by (simp (disch:=first|exact dq|fail) only [go_sem,↓reduceIte,Int.natCast_zero];first|done|rfl),eG⟩
 ·rintro i fr H hi0 hi hA2 ⟨r4,eH⟩
  have q0:=hA2 0 rfl
  have q2:=hA2 2 rfl
  have q3:=hA2 3 rfl
  try simp (disch:=first|exact dq|fail) only [go_sem,↓reduceIte] at q0 q2 q3
  have hlt:((i:Int)<(os.length:Int))=True:=eq_true (by omega)
  have xH:Ext h H:=by rw [eH];exact .app .refl
  have hlH:=hlx xH
  obtain ⟨o,eo⟩:∃ o,o=os[i]:=⟨_,rfl⟩
  have hoi:os[i]?=some o:=by rw [eo];exact List.getElem?_eq_getElem hi
  have hoo:=ho o (List.mem_of_getElem? hoi)
  have hsp:=@Nat.succ_ne_zero;repeat' (first|simp (disch:=first|exact dq|fail) only [go_sem,↓reduceIte,hsp,r4,q0,q2,q3,hlt,hlH]|refine WP_drw ?_|refine cnd_intro (fun hsp=>?_) fun hsp=>?_)
  refine WP_count [(5,37)] 0 n (Nat.zero_le _) (fun _ p fr K=>fr 5=.int .i64 (p:Int)∧K=h++[srB (knS n os i p) 3 0]) ?_ ?_ ?_
  ·exact ⟨by (simp (disch:=first|exact dq|fail) only [go_sem,↓reduceIte,Int.natCast_zero];first|done|rfl),eH⟩
  ·rintro p fr2 K hp0 hp hA3 ⟨r5,eK⟩
   have d0:=hA3 0 rfl
   have d2:=hA3 2 rfl
   have d3:=hA3 3 rfl
   have d4:=hA3 4 rfl
   try simp (disch:=first|exact dq|fail) only [go_sem,↓reduceIte,q0,q2,q3] at d0 d2 d3 d4
   have hlt2:((p:Int)<(n:Int))=True:=eq_true (by omega)
   have xK:Ext h K:=by rw [eK];exact .app .refl
   have gK:K[h.length]?=some (srB (knS n os i p) 3 0):=by rw [eK];exact get_eq rfl
   obtain ⟨a,w,ad,ld,ow⟩:=hA.at (A:=h) (by omega) hoi
   have ldK:=ld K xK
   have oww:=ow.one
   have iw:=ownE_ints (ow.ext xK) (ord_small hoo (by omega))
   have hob:=ord_at hoo hp
   have ap:=adrI (i:=(p:Int)) (by omega) iw (by rw [hoo.1];omega)
   rw [Int.toNat_natCast] at ap
   have lp:=loadI iw (i:=p) (by rw [hoo.1];omega)
   have hkl:=knS_len (n:=n) (os:=os) (i:=i) (p:=p)
   have ar:indexAddrA prog 22 (.slice (some ⟨h.length,0,0⟩) n n) (.int .i64 (p:Int))=some (.ptr (some ⟨h.length,0,p⟩)):=by
    rw [adr_sl Fc.el22 Fc.ar22 (by omega) (by omega),Int.toNat_natCast,Nat.mul_one,Nat.zero_add]
   have lk:loadP prog K 3 (.ptr (some ⟨h.length,0,p⟩))=some (.int .i64 (kvR os i p)):=by
    rw [load_eq,Fc.ty3,gK,ldB_ints (by omega),knS_at hp]
   obtain ⟨s1,s2⟩:=kvR_step (q:=p) hoi hob.2.1
   by_cases c:kvR os i p=o.getD p 0
   ·have t1:(kvR os i p=o.getD p 0)=True:=eq_true c
    have hsp:=@Nat.succ_ne_zero;repeat' (first|simp (disch:=first|exact dq|fail) only [go_sem,↓reduceIte,hsp,r5,r4,d0,d2,d3,d4,q0,q2,q3,n1,hlt2,ar,lk,ad,ldK,ap,lp,t1]|refine WP_drw ?_|refine cnd_intro (fun hsp=>?_) fun hsp=>?_)
    exact ⟨agq,by omega,by rw [eK,knS_same hp (s1 c).symm]⟩
   ·have t1:(kvR os i p=o.getD p 0)=False:=eq_false c
    have hst:∀ {F:ABlk→Heap},stQ base h.length (some (srB (knS n os i p) 3 0)) 0 p [.int .i64 (-1)] F=some (F (srB (knS n os i (p+1)) 3 0)):=fun {F}=>by
     rw [stQ_ints (by omega),knS_set hp (s2 c).symm]
    have hset:K.set h.length (srB (knS n os i (p+1)) 3 0)=h++[srB (knS n os i (p+1)) 3 0]:=by
     rw [eK,List.set_append_right _ _ (Nat.le_refl _),Nat.sub_self];rfl
    have hsp:=@Nat.succ_ne_zero;repeat' (first|simp (disch:=first|exact dq|fail) only [go_sem,↓reduceIte,hsp,r5,r4,d0,d2,d3,d4,q0,q2,q3,n1,hlt2,ar,lk,ad,ldK,ap,lp,t1,gK,hst]|refine WP_drw ?_|refine cnd_intro (fun hsp=>?_) fun hsp=>?_)
    exact ⟨agq,by omega,hset⟩
  ·rintro fr2 K hA3 ⟨r5,eK⟩
   have d0:=hA3 0 rfl
   have d2:=hA3 2 rfl
   have d3:=hA3 3 rfl
   have d4:=hA3 4 rfl
   try simp (disch:=first|exact dq|fail) only [go_sem,↓reduceIte,q0,q2,q3] at d0 d2 d3 d4
   have hlt2:((n:Int)<(n:Int))=False:=eq_false (by omega)
   have hsp:=@Nat.succ_ne_zero;repeat' (first|simp (disch:=first|exact dq|fail) only [go_sem,↓reduceIte,hsp,r5,r4,d0,d2,d3,d4,q0,q2,q3,n1,hlt2]|refine WP_drw ?_|refine cnd_intro (fun hsp=>?_) fun hsp=>?_)
   exact ⟨agq,by omega,by rw [eK,knS_next]⟩
 ·rintro fr H hA2 ⟨r4,eH⟩
  have q0:=hA2 0 rfl
  have q2:=hA2 2 rfl
  have q3:=hA2 3 rfl
  try simp (disch:=first|exact dq|fail) only [go_sem,↓reduceIte] at q0 q2 q3
  have hlt:((os.length:Int)<(os.length:Int))=False:=eq_false (by omega)
  have xH:Ext h H:=by rw [eH];exact .app .refl
  have hlH:=hlx xH
  have hsp:=@Nat.succ_ne_zero;repeat' (first|simp (disch:=first|exact dq|fail) only [go_sem,↓reduceIte,hsp,r4,q0,q2,q3,hlt,hlH]|refine WP_drw ?_|refine cnd_intro (fun hsp=>?_) fun hsp=>?_)
  refine ⟨xH,.inr ⟨h.length,0,by rw [knwL_len],?_,Nat.le_refl _,by rw [knwL_len];omega⟩⟩
  rw [eH,knS_all,rowE,flat_encI]
  exact get_eq rfl
theorem bsRR1 {lit:Bool} {H:Heap} {r:Rw3}:bsA prog lit H 83 1 [(0,.agg [.int .i64 r.1,.int .i64 r.2.1,.int .i64 r.2.2])]=some (.slice (some ⟨H.length,0,0⟩) 1 1,H++[rowE encR 90 [r] 0]):=by
 simp [bsA,rowOf,Fc.el83,fillA,repCells,AVal.isN,AVal.cells,splice,rowE,flat,encR]
theorem snocRR {b base:Nat} {A:Heap} {w:AVal} {l:List Rw3} {r:Rw3} (hO:Own encR 90 b A w l) (hb:base≤b) (hbh:b≤A.length) (hl:l.length≤1000000) :
  ∃ w' H,appendA prog base (A++[rowE encR 90 [r] 0]) 83 w (.slice (some ⟨A.length,0,0⟩) 1 1)=some (w',H)∧Own encR 90 b H w' (l++[r])∧A.length≤H.length∧(∀ G,G.length≤b→Ext G A→Ext G H)∧One w'∧KeepO encR 90 A H:=by
 obtain ⟨B,eB⟩:∃ B,B=A++[rowE encR 90 [r] 0]:=⟨_,rfl⟩
 have xB:Ext A B:=by rw [eB];exact .app .refl
 have lB':B.length=A.length+1:=by rw [eB];simp
 have hx:Rows encR B (.slice (some ⟨A.length,0,0⟩) 1 1) [r]:=Rows.own (by rw [eB];exact get_eq rfl) rfl (by simp)
 rw [← eB]
 obtain ⟨w',H,a1,a2,a3,a4,a5,a6⟩:=(hO.ext xB).appendRX (P:=prog) (base:=base) (t:=83) hx Fc.el83 encR_sc hb (by omega) (by simp) (by simp;omega)
 have a6:KeepO encR 90 B H:=a6
 exact ⟨w',H,a1,a2,by omega,fun G h1 h2=>a4 G h1 (h2.trans xB),a5,fun i y hi hy=>a6 i y (xB.get hi) hy⟩
set_option maxHeartbeats 2000000 in
theorem run_theirs {base:Nat} {h:Heap} {v:AVal} {L:Lac} (hb:base≤h.length) (hL:LacAt h v L) (hl:L.R.length≤1000) :
  Ret prog raw base (.fn 50 [] []) [v] h (fun w H=>Ext h H∧LacAt H w L∧∃ cv rw',w=.agg [.int .i64 L.T,cv,rw']∧Ints h cv L.C∧Own encR 90 h.length H rw' L.R):=by
 obtain ⟨cv,rv,rfl,hC,hR⟩:=hL
 have o1:=hC.one
 have o2:=hR.one
 obtain ⟨G,eG⟩:∃ G,G=h++[lacB L.T cv rv]++[rcB 0 (.slice none 0 0) (.slice none 0 0)]++[rcB L.T cv (.slice none 0 0)]:=⟨_,rfl⟩
 obtain ⟨G1,eG1⟩:∃ G1,G1=h++[lacB L.T cv rv]++[rcB 0 (.slice none 0 0) (.slice none 0 0)]:=⟨_,rfl⟩
 have xG:Ext h G:=by rw [eG];exact .app (.app (.app .refl))
 have lG:G.length=h.length+3:=by rw [eG];simp
 have g0:G[h.length]?=some (lacB L.T cv rv):=by rw [eG];exact get_app (get_app (get_eq rfl))
 have g01:G1[h.length]?=some (lacB L.T cv rv):=by rw [eG1];exact get_app (get_eq rfl)
 have g1:G[h.length+1]?=some (rcB 0 (.slice none 0 0) (.slice none 0 0)):=by rw [eG];exact get_app (get_eq (by simp))
 have g2:G[h.length+1+1]?=some (rcB L.T cv (.slice none 0 0)):=by rw [eG];exact get_eq (by simp)
 have eGG:G1++[rcB L.T cv (.slice none 0 0)]=G:=by rw [eG,eG1]
 have l1:G1.length=h.length+1+1:=by rw [eG1];simp
 have hn:=(hR.ext xG).len (P:=prog) Fc.el23
 unfold lacB rcB at eG1
 unfold rcB at eGG g1 g2
 unfold lacB at g0 g01
 refine ret_raw func50 rfl (by kernel_rfl) ?_
 have hsp:=@Nat.succ_ne_zero;repeat' (first|simp (disch:=first|exact dq|fail) only [go_sem,↓reduceIte,hsp,← eG1,g01,l1,eGG,g0,hn]|refine WP_drw ?_|refine cnd_intro (fun hsp=>?_) fun hsp=>?_)
 refine WP_count [(5,5),(14,24)] 0 L.R.length (Nat.zero_le _) (fun _ i fr K=>fr 14=.int .i64 (i:Int)∧Ext h K∧h.length+3≤K.length∧K[h.length+1]?=some (rcB 0 (.slice none 0 0) (.slice none 0 0))∧∃ w,K[h.length+1+1]?=some (rcB L.T cv w)∧Own encR 90 (h.length+3) K w (L.R.take i)) ?_ ?_ ?_
 ·exact ⟨by (simp (disch:=first|exact dq|fail) only [go_sem,↓reduceIte,Int.natCast_zero];first|done|rfl),xG,by omega,g1,.slice none 0 0,g2,Own.nil⟩
 ·rintro i fr K hi0 hi hA ⟨r14,xK,lK,gK1,w,gK2,oW⟩
  have q2:=hA 2 rfl
  have q3:=hA 3 rfl
  have q12:=hA 12 rfl
  have q13:=hA 13 rfl
  try simp (disch:=first|exact dq|fail) only [go_sem,↓reduceIte] at q2 q3 q12 q13
  have hlt:((i:Int)<(L.R.length:Int))=True:=eq_true (by omega)
  have ow:=oW.one
  obtain ⟨r,er⟩:∃ r,r=L.R[i]:=⟨_,rfl⟩
  have hx:L.R[i]?=some r:=by rw [er];exact List.getElem?_eq_getElem hi
  have iR:=hR.ext xK
  have ad:=iR.addr (P:=prog) (i:=(i:Int)) Fc.el23 Fc.ar23 (by omega) (by omega)
  rw [Int.toNat_natCast] at ad
  have ld:loadP prog K 28 (elAdr rv encR.z i 0)=some (.agg [.int .i64 r.1,.int .i64 r.2.1,.int .i64 r.2.2]):=iR.load (P:=prog) Fc.ty28 hx
  obtain ⟨K1,eK1⟩:∃ K1,K1=K++[rwB r]:=⟨_,rfl⟩
  have x1:Ext K K1:=by rw [eK1];exact .app .refl
  have gr:K1[K.length]?=some (rwB r):=by rw [eK1];exact get_eq rfl
  have gK3:=x1.get gK2
  have gK4:=x1.get gK1
  have l2:=x1.len
  obtain ⟨w',K2,ea,oW',lW,eW,oneW,kW⟩:=snocRR (base:=base) (r:=r) (oW.ext x1) (by omega) (by omega) (by rw [List.length_take];omega)
  have gK5:=kW.box gK3
  have gK6:=kW.box gK4
  have htk:L.R.take (i+1)=L.R.take i++[r]:=by rw [List.take_add_one,hx];rfl
  unfold rcB at gK2 gK3 gK5
  unfold rwB at eK1 gr
  have hsp:=@Nat.succ_ne_zero;repeat' (first|simp (disch:=first|exact dq|fail) only [go_sem,↓reduceIte,hsp,r14,q2,q3,q12,q13,hlt,ad,ld,← eK1,gr,gK3,bsRR1,ea,gK5]|refine WP_drw ?_|refine cnd_intro (fun hsp=>?_) fun hsp=>?_)
  exact ⟨agq,by omega,(eW h (by omega) (xK.trans x1)).set (by omega),by omega,gK6,w',rfl,by rw [htk];exact oW'.setBox gK5⟩
 ·rintro fr K hA ⟨r14,xK,lK,gK1,w,gK2,oW⟩
  have q2:=hA 2 rfl
  have q3:=hA 3 rfl
  have q12:=hA 12 rfl
  have q13:=hA 13 rfl
  try simp (disch:=first|exact dq|fail) only [go_sem,↓reduceIte] at q2 q3 q12 q13
  have hlt:((L.R.length:Int)<(L.R.length:Int))=False:=eq_false (by omega)
  rw [List.take_length] at oW
  have ow:=oW.one
  unfold rcB at gK1 gK2
  have hsp:=@Nat.succ_ne_zero;repeat' (first|simp (disch:=first|exact dq|fail) only [go_sem,↓reduceIte,hsp,r14,q2,q3,q12,q13,hlt,gK2,gK1]|refine WP_drw ?_|refine cnd_intro (fun hsp=>?_) fun hsp=>?_)
  have xf:Ext h (K.set (h.length+1) ⟨.cells [.int .i64 L.T,cv,w] 85 false false,0⟩):=xK.set (by omega)
  have oF:=(oW.setBox (k:=⟨.cells [.int .i64 L.T,cv,w] 85 false false,0⟩) gK1).low (b':=h.length) (by omega)
  exact ⟨xf,⟨cv,w,rfl,hC.ext xf,oF.rows (by omega)⟩,cv,w,rfl,hC,oF⟩
end Go.AM
namespace Go.AM
open Go.Proofs.Tryz Go.RowKit Go.ChangeShapes Go.WideShapes Go.ChangeAt
open Go.Proofs.YteanoaejoddnbaaGreat (Rows.uptoSmall Rows.uptoBulkAll Rows.uptoBulk)
set_option maxRecDepth 100000
def Rw.okG (μ:Mu) (w:World) (r:Rw):Prop:=∃ (C:Array Value) (T:TypeId) (fz:Nat × Nat),w.heap[r.blk]?=some (.cells C T fz)∧r.off+r.cs.length≤C.size ∧
 ∀ (i:Nat) (x:AVal) (y:Value),r.cs[i]?=some x→C[r.off+i]?=some y→VR μ x y
def RsOk (w:World) (R:List Rw):Prop:=∀ r ∈ R,r.okG (muR R) w
def Opens (W:World) (cs:List Value) (Q:Heap→List AVal→Prop):Prop:=∀ R,RsOk W R→∃ S vs,RsOk W (R++S)∧VRs (muR (R++S)) vs cs∧Q (heapR (R++S)) vs
def OpensV (W:World) (V:Value) (Q:Heap→AVal→Prop):Prop:=∀ R,RsOk W R→∃ S v,RsOk W (R++S)∧VR (muR (R++S)) v V∧Q (heapR (R++S)) v
end Go.AM
namespace Go.AM
open Go.Proofs.Tryz Go.RowKit Go.ChangeShapes Go.WideShapes Go.ChangeAt
open Go.Proofs.YteanoaejoddnbaaGreat (Rows.uptoSmall Rows.uptoBulkAll Rows.uptoBulk)
set_option maxRecDepth 100000
def IntsN (N:Nat) (H:Heap) (v:AVal):Prop:=∃ l,Ints H v l∧l.length≤N
theorem IntsN.ext {N:Nat} {G H:Heap} {v:AVal} (h:IntsN N G v) (e:Ext G H):IntsN N H v:=by
 obtain ⟨l,h1,h2⟩:=h
 exact ⟨l,h1.ext e,h2⟩
def LacN (N:Nat) (H:Heap) (v:AVal):Prop:=∃ L,LacAt H v L∧L.C.length≤N∧L.R.length≤N
theorem LacN.ext {N:Nat} {G H:Heap} {v:AVal} (h:LacN N G v) (e:Ext G H):LacN N H v:=by
 obtain ⟨L,h1,h2⟩:=h
 exact ⟨L,h1.ext e,h2⟩
def MovN (N:Nat) (H:Heap) (v:AVal):Prop:=∃ l,Rows encM H v l∧l.length≤N
def RelZ (H:Heap) (v:AVal) (ps:List (List Int)):Prop:=∃ vs:List AVal,Rows encZ H v vs∧vs.length=ps.length∧∀ (i:Nat) x t,vs[i]?=some x→ps[i]?=some t→Ints H x t
theorem RelZ.ext {G H:Heap} {v:AVal} {ps:List (List Int)} (h:RelZ G v ps) (e:Ext G H):RelZ H v ps:=by
 obtain ⟨vs,h1,h2,h3⟩:=h
 exact ⟨vs,h1.ext e,h2,fun i x t a b=>(h3 i x t a b).ext e⟩
def PilN (N:Nat) (H:Heap) (v:AVal):Prop:=∃ ps,RelZ H v ps∧ps.length≤N∧∀ t ∈ ps,t.length≤N
def RowV (_:Heap) (v:AVal):Prop:=∃ r:Rw3,v=.agg [.int .i64 r.1,.int .i64 r.2.1,.int .i64 r.2.2]
def IntV (_:Heap) (v:AVal):Prop:=∃ n:Int,v=.int .i64 n
section
variable {H:Type} {enc:TypeId × Value→H} {W:World} {n N:Nat}
end
end Go.AM
namespace Go.AM
open Go.Proofs.Tryz
attribute [-go_sem] put_ne put_same
attribute [local go_sem ↓] put_if
theorem run_great {base:Nat} {h:Heap} {v:AVal} {L:Lac} (hL:LacAt h v L):callL prog raw base (.fn 48 [] []) [v] h=some (.bool (decide (12<L.C.length ∨ 16<L.R.length)),h):=by
 obtain ⟨cv,rv,rfl,hC,hR⟩:=hL
 have o1:=hC.one
 have o2:=hR.one
 obtain ⟨G,eG⟩:∃ G,G=h++[lacB L.T cv rv]:=⟨_,rfl⟩
 have xG:Ext h G:=by rw [eG];exact .app .refl
 have g0:G[h.length]?=some (lacB L.T cv rv):=by rw [eG];exact get_eq rfl
 have hn1:=lenI (hC.ext xG)
 have hn2:=(hR.ext xG).len (P:=prog) Fc.el23
 unfold lacB at eG g0
 refine callL_run func48 rfl rfl ?_
 by_cases c:12<L.C.length
 ·have t1:((L.C.length:Int) > 12)=True:=eq_true (by omega)
  have hsp:=@Nat.succ_ne_zero;repeat' (first|simp (disch:=first|exact dq|fail) only [go_sem,↓reduceIte,hsp,← eG,g0,hn1,t1]|refine WP_drw ?_|refine cnd_intro (fun hsp=>?_) fun hsp=>?_)
  exact fB (by rw [decide_eq_true (.inl c)]) xG
 ·have t1:((L.C.length:Int) > 12)=False:=eq_false (by omega)
  by_cases d:16<L.R.length
  ·have t2:((L.R.length:Int) > 16)=True:=eq_true (by omega)
   have hsp:=@Nat.succ_ne_zero;repeat' (first|simp (disch:=first|exact dq|fail) only [go_sem,↓reduceIte,hsp,← eG,g0,hn1,hn2,t1,t2]|refine WP_drw ?_|refine cnd_intro (fun hsp=>?_) fun hsp=>?_)
   exact fB (by rw [decide_eq_true (.inr d)]) xG
  ·have t2:((L.R.length:Int) > 16)=False:=eq_false (by omega)
   have hsp:=@Nat.succ_ne_zero;repeat' (first|simp (disch:=first|exact dq|fail) only [go_sem,↓reduceIte,hsp,← eG,g0,hn1,hn2,t1,t2]|refine WP_drw ?_|refine cnd_intro (fun hsp=>?_) fun hsp=>?_)
   exact fB (by rw [decide_eq_false (by omega)]) xG
theorem chkL_ne {L:Lac}:chkL L ≠ 7∧chkL L ≠ 6:=by
 unfold chkL
 repeat' split
 all_goals omega
theorem found_bad {L:Lac} (h:chkL L ≠ 0):frsE L=([],chkL L)∧cntE L=(0,chkL L)∧kwnE L=([],chkL L)∧rngE L=chkL L∧gapE L=chkL L∧askE L=(0,0,chkL L)∧dcdE L=([],chkL L):=by
 have e:fndE L=([],chkL L):=by unfold fndE;rw [if_pos h]
 refine ⟨by unfold frsE;rw [e,if_neg h],?_,by unfold kwnE;rw [e,if_neg h],by unfold rngE;rw [e,if_neg h],by unfold gapE;rw [if_neg h],by unfold askE;rw [e,if_neg h],by unfold dcdE;rw [e,if_neg h]⟩
 unfold cntE
 rw [e,if_neg chkL_ne.1]
 rfl
set_option maxRecDepth 100000 in
set_option maxHeartbeats 8000000 in
theorem run_LaceFinds {base:Nat} {h:Heap} {v0 v1:AVal} (hL0:LacN 1048576 h v0) (hO0:IntsN 1048576 h v1) :
  callL prog raw base (.fn 14 [] []) [v0,v1] h=some (.bool true,h):=by
 obtain ⟨L,hL,-,-⟩:=hL0
 obtain ⟨o,hO,-⟩:=hO0
 have hLL:=hL
 obtain ⟨cv,rv,rfl,hC,hR⟩:=hLL
 have o1:=hC.one
 have o2:=hR.one
 have o3:=hO.one
 obtain ⟨G0,eG0⟩:∃ G0,G0=h++[lacB L.T cv rv]:=⟨_,rfl⟩
 have x0:Ext h G0:=by rw [eG0];exact .app .refl
 have g0:G0[h.length]?=some (lacB L.T cv rv):=by rw [eG0];exact get_eq rfl
 have lG0:G0.length=h.length+1:=by rw [eG0];simp
 have hg:=fun base=>run_great (base:=base) (hL.ext x0)
 have hlo:=lenI (hO.ext x0)
 have haw:=fun base=>run_awake (base:=base) (h:=G0)
 unfold lacB at eG0
 have g0':=g0
 unfold lacB at g0'
 refine callL_run func14 rfl rfl ?_
 by_cases cg:12<L.C.length ∨ 16<L.R.length
 ·rw [decide_eq_true cg] at hg
  have hsp:=@Nat.succ_ne_zero;repeat' (first|simp (disch:=first|exact dq|fail) only [go_sem,↓reduceIte,hsp,← eG0,g0',hg,haw]|refine WP_drw ?_|refine cnd_intro (fun hsp=>?_) fun hsp=>?_)
  exact fB rfl x0
 ·rw [decide_eq_false cg] at hg
  by_cases cl:12<o.length
  ·have t1:((o.length:Int) > 12)=True:=eq_true (by omega)
   have hsp:=@Nat.succ_ne_zero;repeat' (first|simp (disch:=first|exact dq|fail) only [go_sem,↓reduceIte,hsp,← eG0,g0',hg,hlo,t1,haw]|refine WP_drw ?_|refine cnd_intro (fun hsp=>?_) fun hsp=>?_)
   exact fB rfl x0
  ·have t1:((o.length:Int) > 12)=False:=eq_false (by omega)
   obtain ⟨_,G1,e1,x1,cw,rw1,rfl,oC,oR⟩:=run_own (base:=h.length) (h:=G0) (by omega) (hL.ext x0) (by omega) (by omega)
   have l1:=x1.len
   obtain ⟨_,G2,e2,x2,aT,cv2,rw2,rfl,-,oT⟩:=run_theirs (base:=h.length) (h:=G1) (by omega) (hL.ext (x0.trans x1)) (by omega)
   have l2:=x2.len
   obtain ⟨mw,G3,e3,x3,oM⟩:=run_dupI (base:=h.length) (h:=G2) (by omega) (hO.ext ((x0.trans x1).trans x2)) (by omega)
   have l3:=x3.len
   have ocw:=oC.one
   have orw:=oR.one
   have omw:=oM.one
   have ot2:=oT.one
   have oc2:One cv2:=by
    obtain ⟨_,_,q,q2,_⟩:=aT
    simp only [AVal.agg.injEq,List.cons.injEq,and_true] at q
    rw [q.2.1];exact q2.one
   obtain ⟨G4,eG4⟩:∃ G4,G4=G3++[lacB L.T cw rw1]++[rcB L.T cv2 rw2]:=⟨_,rfl⟩
   have x4:Ext G3 G4:=by rw [eG4];exact .app (.app .refl)
   have l4:G4.length=G3.length+2:=by rw [eG4];simp
   have gO4:G4[G3.length]?=some (lacB L.T cw rw1):=by rw [eG4];exact get_app (get_eq rfl)
   have gT4:G4[G3.length+1]?=some (rcB L.T cv2 rw2):=by rw [eG4];exact get_eq (by simp)
   have x14:=(x2.trans x3).trans x4
   have xh4:Ext h G4:=(x0.trans x1).trans x14
   have hsC:Small L.C:=⟨by omega,hC.1.2⟩
   have hso:Small o:=⟨by omega,hO.1.2⟩
   have aO4:LacAt G4 (.agg [.int .i64 L.T,cw,rw1]) L:=⟨cw,rw1,rfl,(ownE_ints oC hsC).ext x14,(oR.rows (by omega)).ext x14⟩
   have aT4:LacAt G4 (.agg [.int .i64 L.T,cv2,rw2]) L:=aT.ext (x3.trans x4)
   have iM4:Ints G4 mw o:=(ownE_ints oM hso).ext x4
   have gc4:G4[h.length]?=some (lacB L.T cv rv):=(x1.trans x14).get g0
   have hck:=fun base=>run_rcheck (base:=base) aT4 (by omega) (by omega)
   have g01:=x1.get g0'
   unfold lacB rcB at eG4
   unfold rcB at gT4
   have gc4':=gc4
   unfold lacB at gc4'
   have hlc4:=lenI (hC.ext xh4)
   by_cases c:chkL L=0
   ·have hok:=chkL_iff.1 c
    have hn:=hok.n
    have hrd:=fun base=>run_rordered (base:=base) (h:=G4) (n:=L.C.length) (hO.ext xh4) (by omega)
    rw [c] at hck
    obtain ⟨lw,G5,e5,x5,aA⟩:=run_All (base:=h.length) (h:=G4) (by omega) aT4 hok
    have l5:=x5.len
    have olw:=aA.one
    have hfew:=fnd_few (L:=L) hn.2
    have hln:=aA.all.len (by omega)
    by_cases cf:fnd L=[]
    ·obtain ⟨w1,w2,w3,w4,w5⟩:=found_none c cf
     rw [cf] at hln
     have t2:((([]:List (List Int)).length:Int) > 0)=False:=eq_false (by simp)
     have tz:((0:Int) > 0)=False:=eq_false (by omega)
     obtain ⟨Z,eZ⟩:∃ Z,Z=G5:=⟨_,rfl⟩
     rw [← eZ] at e5 hln
     have xZ:Ext G4 Z:=by rw [eZ];exact x5
     obtain ⟨lf,elf⟩:∃ lf:List Int,lf=[]:=⟨_,rfl⟩
     obtain ⟨lk,elk⟩:∃ lk:List Int,lk=[]:=⟨_,rfl⟩
     have sf:Small lf:=by rw [elf];exact ⟨by simp,by simp⟩
     have sk:Small lk:=by rw [elk];exact ⟨by simp,by simp⟩
     have hf:Ints Z (.slice none 0 0) lf:=by rw [elf];exact ints_nil
     have hk:Ints Z (.slice none 0 0) lk:=by rw [elk];exact ints_nil
     have fv:frsE L=(lf,7):=by rw [w1,elf]
     have kv:kwnE L=(lk,7):=by rw [w2,elk]
     have nv:=w3
     have z0:((([]:List (List Int)).length:Nat):Int)=0:=rfl
     by_cases co:ordL o L.C.length=0
     ·have hoo:=ordL_iff.1 co
      rw [co] at hrd
      have hex:=fun base=>run_rexplains (base:=base) aT4 hok (hO.ext xh4) hoo
      have xv:xpsE L o=(xplD L o o.length,0):=by unfold xpsE lcdE;rw [if_pos c,if_pos co]
      have lZ:=xZ.len
      have aO:=aO4.ext xZ
      have iM:=iM4.ext xZ
      have gO:=xZ.get gO4
      have gc:=xZ.get gc4
      have c1:=fun base=>run_Explains (base:=base) aO iM
      rw [xv] at c1
      obtain ⟨_,Z1,c2,z1,fw,rfl,oF⟩:=run_First (base:=h.length) (h:=Z) (by omega) aO
      rw [fv] at c2 oF
      have c3:=fun base=>run_Count (base:=base) (aO.ext z1)
      rw [nv] at c3
      have lz1:=z1.len
      obtain ⟨_,Z2,c4,z2,kw,rfl,oK⟩:=run_Known (base:=h.length) (h:=Z1) (by omega) (aO.ext z1)
      rw [kv] at c4 oK
      have of1:=oF.one
      have ok1:=oK.one
      have gO1:=z1.get gO
      have gO2:=z2.get gO1
      have gc2:=z2.get (z1.get gc)
      have iF:Ints Z2 fw lf:=(ownE_ints oF sf).ext z2
      have iK:Ints Z2 kw lk:=ownE_ints oK sk
      have q1:=fun base=>run_eqI (base:=base) iF (hf.ext (z1.trans z2))
      have q2:=fun base=>run_eqI (base:=base) iK (hk.ext (z1.trans z2))
      rw [decide_eq_true rfl] at q1 q2
      have z12:=z1.trans z2
      have q3:=fun base=>run_same (base:=base) (aO.ext z12) (hL.ext (xh4.trans (xZ.trans z12))) (by omega)
      have q4:=fun base=>run_eqI (base:=base) (iM.ext z12) (hO.ext (xh4.trans (xZ.trans z12)))
      rw [decide_eq_true rfl] at q4
      have q5:=fun base=>run_awake (base:=base) (h:=Z2)
      unfold lacB at gO gO1 gO2 gc2
      have hsp:=@Nat.succ_ne_zero;repeat' (first|simp (disch:=first|exact dq|fail) only [go_sem,↓reduceIte,hsp,← eG0,g0',hg,hlo,t1,e1,g01,e2,e3,← eG4,gT4,hck,eq_self,gc4',hlc4,hrd,hex,e5,hln,t2,gO,c1,c2,gO1,c3,c4,eqB,decide_true,q1,q2,q3,q4,q5,gO2,gc2,z0,tz]|refine WP_drw ?_|refine cnd_intro (fun hsp=>?_) fun hsp=>?_)
      exact fB rfl (xh4.trans (xZ.trans z12))
     ·have tu:(ordL o L.C.length=0)=False:=eq_false co
      have xv:xpsE L o=(false,ordL o L.C.length):=by unfold xpsE lcdE;rw [if_pos c,if_neg co]
      have lZ:=xZ.len
      have aO:=aO4.ext xZ
      have iM:=iM4.ext xZ
      have gO:=xZ.get gO4
      have gc:=xZ.get gc4
      have c1:=fun base=>run_Explains (base:=base) aO iM
      rw [xv] at c1
      obtain ⟨_,Z1,c2,z1,fw,rfl,oF⟩:=run_First (base:=h.length) (h:=Z) (by omega) aO
      rw [fv] at c2 oF
      have c3:=fun base=>run_Count (base:=base) (aO.ext z1)
      rw [nv] at c3
      have lz1:=z1.len
      obtain ⟨_,Z2,c4,z2,kw,rfl,oK⟩:=run_Known (base:=h.length) (h:=Z1) (by omega) (aO.ext z1)
      rw [kv] at c4 oK
      have of1:=oF.one
      have ok1:=oK.one
      have gO1:=z1.get gO
      have gO2:=z2.get gO1
      have gc2:=z2.get (z1.get gc)
      have iF:Ints Z2 fw lf:=(ownE_ints oF sf).ext z2
      have iK:Ints Z2 kw lk:=ownE_ints oK sk
      have q1:=fun base=>run_eqI (base:=base) iF (hf.ext (z1.trans z2))
      have q2:=fun base=>run_eqI (base:=base) iK (hk.ext (z1.trans z2))
      rw [decide_eq_true rfl] at q1 q2
      have z12:=z1.trans z2
      have q3:=fun base=>run_same (base:=base) (aO.ext z12) (hL.ext (xh4.trans (xZ.trans z12))) (by omega)
      have q4:=fun base=>run_eqI (base:=base) (iM.ext z12) (hO.ext (xh4.trans (xZ.trans z12)))
      rw [decide_eq_true rfl] at q4
      have q5:=fun base=>run_awake (base:=base) (h:=Z2)
      unfold lacB at gO gO1 gO2 gc2
      have hsp:=@Nat.succ_ne_zero;repeat' (first|simp (disch:=first|exact dq|fail) only [go_sem,↓reduceIte,hsp,← eG0,g0',hg,hlo,t1,e1,g01,e2,e3,← eG4,gT4,hck,eq_self,gc4',hlc4,hrd,tu,e5,hln,t2,gO,c1,c2,gO1,c3,c4,eqB,decide_true,q1,q2,q3,q4,q5,gO2,gc2,z0,tz]|refine WP_drw ?_|refine cnd_intro (fun hsp=>?_) fun hsp=>?_)
      exact fB rfl (xh4.trans (xZ.trans z12))
    ·have hfo:(fnd L).headD [] ∈ fnd L:=by
      cases q:fnd L with
      | nil=>exact absurd q cf
      | cons a l=>simp
     obtain ⟨nv,kv,fv,-,-,-,hp⟩:=found_all c hfo
     have t2:(((fnd L).length:Int) > 0)=True:=eq_true (by omega)
     obtain ⟨lf,elf⟩:∃ lf,lf=(fnd L).headD []:=⟨_,rfl⟩
     obtain ⟨lk,elk⟩:∃ lk,lk=knwL L.C.length (fnd L):=⟨_,rfl⟩
     have sf:Small lf:=by rw [elf];exact ord_small (fnd_ord hfo) (by omega)
     have sk:Small lk:=by rw [elk];exact knwL_small hfo hn.2
     rw [← elf] at fv
     rw [← elk] at kv
     obtain ⟨a0,fs,ad0,ld0,ow0⟩:=aA.at (A:=G5) (by omega) (head_at cf)
     rw [Int.natCast_zero] at ad0
     obtain ⟨kn,Z,e6,x6,oKn⟩:=run_rknown (base:=h.length) (h:=G5) (n:=L.C.length) (by omega) aA hn hfew cf (fun o ho=>fnd_ord ho)
     have okn:=oKn.one
     have ofs:=ow0.one
     have d0:=ld0 G5 .refl
     have d6:=ld0 Z x6
     have xZ:=x5.trans x6
     have hf:Ints Z fs lf:=by rw [elf];exact (ownE_ints ow0 (by rw [← elf];exact sf)).ext x6
     have hk:Ints Z kn lk:=by rw [elk];exact own_ints oKn (by rw [← elk];exact sk)
     by_cases co:ordL o L.C.length=0
     ·have hoo:=ordL_iff.1 co
      rw [co] at hrd
      have hex:=fun base=>run_rexplains (base:=base) aT4 hok (hO.ext xh4) hoo
      have xv:xpsE L o=(xplD L o o.length,0):=by unfold xpsE lcdE;rw [if_pos c,if_pos co]
      have lZ:=xZ.len
      have aO:=aO4.ext xZ
      have iM:=iM4.ext xZ
      have gO:=xZ.get gO4
      have gc:=xZ.get gc4
      have c1:=fun base=>run_Explains (base:=base) aO iM
      rw [xv] at c1
      obtain ⟨_,Z1,c2,z1,fw,rfl,oF⟩:=run_First (base:=h.length) (h:=Z) (by omega) aO
      rw [fv] at c2 oF
      have c3:=fun base=>run_Count (base:=base) (aO.ext z1)
      rw [nv] at c3
      have lz1:=z1.len
      obtain ⟨_,Z2,c4,z2,kw,rfl,oK⟩:=run_Known (base:=h.length) (h:=Z1) (by omega) (aO.ext z1)
      rw [kv] at c4 oK
      have of1:=oF.one
      have ok1:=oK.one
      have gO1:=z1.get gO
      have gO2:=z2.get gO1
      have gc2:=z2.get (z1.get gc)
      have iF:Ints Z2 fw lf:=(ownE_ints oF sf).ext z2
      have iK:Ints Z2 kw lk:=ownE_ints oK sk
      have q1:=fun base=>run_eqI (base:=base) iF (hf.ext (z1.trans z2))
      have q2:=fun base=>run_eqI (base:=base) iK (hk.ext (z1.trans z2))
      rw [decide_eq_true rfl] at q1 q2
      have z12:=z1.trans z2
      have q3:=fun base=>run_same (base:=base) (aO.ext z12) (hL.ext (xh4.trans (xZ.trans z12))) (by omega)
      have q4:=fun base=>run_eqI (base:=base) (iM.ext z12) (hO.ext (xh4.trans (xZ.trans z12)))
      rw [decide_eq_true rfl] at q4
      have q5:=fun base=>run_awake (base:=base) (h:=Z2)
      unfold lacB at gO gO1 gO2 gc2
      have hsp:=@Nat.succ_ne_zero;repeat' (first|simp (disch:=first|exact dq|fail) only [go_sem,↓reduceIte,hsp,← eG0,g0',hg,hlo,t1,e1,g01,e2,e3,← eG4,gT4,hck,eq_self,gc4',hlc4,hrd,hex,e5,hln,t2,ad0,d0,d6,e6,gO,c1,c2,gO1,c3,c4,eqB,decide_true,q1,q2,q3,q4,q5,gO2,gc2]|refine WP_drw ?_|refine cnd_intro (fun hsp=>?_) fun hsp=>?_)
      exact fB rfl (xh4.trans (xZ.trans z12))
     ·have tu:(ordL o L.C.length=0)=False:=eq_false co
      have xv:xpsE L o=(false,ordL o L.C.length):=by unfold xpsE lcdE;rw [if_pos c,if_neg co]
      have lZ:=xZ.len
      have aO:=aO4.ext xZ
      have iM:=iM4.ext xZ
      have gO:=xZ.get gO4
      have gc:=xZ.get gc4
      have c1:=fun base=>run_Explains (base:=base) aO iM
      rw [xv] at c1
      obtain ⟨_,Z1,c2,z1,fw,rfl,oF⟩:=run_First (base:=h.length) (h:=Z) (by omega) aO
      rw [fv] at c2 oF
      have c3:=fun base=>run_Count (base:=base) (aO.ext z1)
      rw [nv] at c3
      have lz1:=z1.len
      obtain ⟨_,Z2,c4,z2,kw,rfl,oK⟩:=run_Known (base:=h.length) (h:=Z1) (by omega) (aO.ext z1)
      rw [kv] at c4 oK
      have of1:=oF.one
      have ok1:=oK.one
      have gO1:=z1.get gO
      have gO2:=z2.get gO1
      have gc2:=z2.get (z1.get gc)
      have iF:Ints Z2 fw lf:=(ownE_ints oF sf).ext z2
      have iK:Ints Z2 kw lk:=ownE_ints oK sk
      have q1:=fun base=>run_eqI (base:=base) iF (hf.ext (z1.trans z2))
      have q2:=fun base=>run_eqI (base:=base) iK (hk.ext (z1.trans z2))
      rw [decide_eq_true rfl] at q1 q2
      have z12:=z1.trans z2
      have q3:=fun base=>run_same (base:=base) (aO.ext z12) (hL.ext (xh4.trans (xZ.trans z12))) (by omega)
      have q4:=fun base=>run_eqI (base:=base) (iM.ext z12) (hO.ext (xh4.trans (xZ.trans z12)))
      rw [decide_eq_true rfl] at q4
      have q5:=fun base=>run_awake (base:=base) (h:=Z2)
      unfold lacB at gO gO1 gO2 gc2
      have hsp:=@Nat.succ_ne_zero;repeat' (first|simp (disch:=first|exact dq|fail) only [go_sem,↓reduceIte,hsp,← eG0,g0',hg,hlo,t1,e1,g01,e2,e3,← eG4,gT4,hck,eq_self,gc4',hlc4,hrd,tu,e5,hln,t2,ad0,d0,d6,e6,gO,c1,c2,gO1,c3,c4,eqB,decide_true,q1,q2,q3,q4,q5,gO2,gc2]|refine WP_drw ?_|refine cnd_intro (fun hsp=>?_) fun hsp=>?_)
      exact fB rfl (xh4.trans (xZ.trans z12))
   ·have tu:(chkL L=0)=False:=eq_false c
    obtain ⟨w1,nv,w3,-⟩:=found_bad c
    obtain ⟨Z,eZ⟩:∃ Z,Z=G4:=⟨_,rfl⟩
    have xZ:Ext G4 Z:=by rw [eZ];exact .refl
    rw [← eZ] at eG4 gT4 hck
    obtain ⟨lf,elf⟩:∃ lf:List Int,lf=[]:=⟨_,rfl⟩
    obtain ⟨lk,elk⟩:∃ lk:List Int,lk=[]:=⟨_,rfl⟩
    have sf:Small lf:=by rw [elf];exact ⟨by simp,by simp⟩
    have sk:Small lk:=by rw [elk];exact ⟨by simp,by simp⟩
    have hf:Ints Z (.slice none 0 0) lf:=by rw [elf];exact ints_nil
    have hk:Ints Z (.slice none 0 0) lk:=by rw [elk];exact ints_nil
    have fv:frsE L=(lf,chkL L):=by rw [w1,elf]
    have kv:kwnE L=(lk,chkL L):=by rw [w3,elk]
    have xv:xpsE L o=(false,chkL L):=by unfold xpsE lcdE;rw [if_neg c,if_neg c]
    have lZ:=xZ.len
    have aO:=aO4.ext xZ
    have iM:=iM4.ext xZ
    have gO:=xZ.get gO4
    have gc:=xZ.get gc4
    have c1:=fun base=>run_Explains (base:=base) aO iM
    rw [xv] at c1
    obtain ⟨_,Z1,c2,z1,fw,rfl,oF⟩:=run_First (base:=h.length) (h:=Z) (by omega) aO
    rw [fv] at c2 oF
    have c3:=fun base=>run_Count (base:=base) (aO.ext z1)
    rw [nv] at c3
    have lz1:=z1.len
    obtain ⟨_,Z2,c4,z2,kw,rfl,oK⟩:=run_Known (base:=h.length) (h:=Z1) (by omega) (aO.ext z1)
    rw [kv] at c4 oK
    have of1:=oF.one
    have ok1:=oK.one
    have gO1:=z1.get gO
    have gO2:=z2.get gO1
    have gc2:=z2.get (z1.get gc)
    have iF:Ints Z2 fw lf:=(ownE_ints oF sf).ext z2
    have iK:Ints Z2 kw lk:=ownE_ints oK sk
    have q1:=fun base=>run_eqI (base:=base) iF (hf.ext (z1.trans z2))
    have q2:=fun base=>run_eqI (base:=base) iK (hk.ext (z1.trans z2))
    rw [decide_eq_true rfl] at q1 q2
    have z12:=z1.trans z2
    have q3:=fun base=>run_same (base:=base) (aO.ext z12) (hL.ext (xh4.trans (xZ.trans z12))) (by omega)
    have q4:=fun base=>run_eqI (base:=base) (iM.ext z12) (hO.ext (xh4.trans (xZ.trans z12)))
    rw [decide_eq_true rfl] at q4
    have q5:=fun base=>run_awake (base:=base) (h:=Z2)
    unfold lacB at gO gO1 gO2 gc2
    have hsp:=@Nat.succ_ne_zero;repeat' (first|simp (disch:=first|exact dq|fail) only [go_sem,↓reduceIte,hsp,← eG0,g0',hg,hlo,t1,e1,g01,e2,e3,← eG4,gT4,hck,eq_self,tu,gO,c1,c2,gO1,c3,c4,eqB,decide_true,q1,q2,q3,q4,q5,gO2,gc2]|refine WP_drw ?_|refine cnd_intro (fun hsp=>?_) fun hsp=>?_)
    exact fB rfl (xh4.trans (xZ.trans z12))
end Go.AM
