/-
  The reference: the units that no cut takes (Rest).
-/
import Derived.Test.YtikgghhceolaeaaGreatU21
import Derived.Test.YtikgghhceolaeaaGreatU10
import Derived.Test.YtikgghhceolaeaaGreatU9
import Derived.Test.YtikgghhceolaeaaGreatU12
set_option linter.unusedSimpArgs false
set_option linter.unusedVariables false
namespace Go.AM
open Go.Proofs.Tryz
attribute [-go_sem] put_ne put_same
attribute [local go_sem ↓] put_if
theorem snocS {b base:Nat} {A:Heap} {w:AVal} {l:List (Int × Int)} {r:Int × Int} (hO:Own encS 84 b A w l) (hb:base≤b) (hbh:b≤A.length) (hl:l.length≤1000000) :
  ∃ w' H,appendA prog base (A++[rowE encS 84 [r] 0]) 112 w (.slice (some ⟨A.length,0,0⟩) 1 1)=some (w',H)∧Own encS 84 b H w' (l++[r])∧A.length≤H.length∧(∀ G,G.length≤b→Ext G A→Ext G H)∧One w'∧KeepO encS 84 A H:=by
 obtain ⟨B,eB⟩:∃ B,B=A++[rowE encS 84 [r] 0]:=⟨_,rfl⟩
 have xB:Ext A B:=by rw [eB];exact .app .refl
 have lB':B.length=A.length+1:=by rw [eB];simp
 have hx:Rows encS B (.slice (some ⟨A.length,0,0⟩) 1 1) [r]:=Rows.own (by rw [eB];exact get_eq rfl) rfl (by simp)
 rw [← eB]
 obtain ⟨w',H,a1,a2,a3,a4,a5,a6⟩:=(hO.ext xB).appendRX (P:=prog) (base:=base) (t:=112) hx Fc.el112 encS_sc hb (by omega) (by simp) (by simp;omega)
 have a6:KeepO encS 84 B H:=a6
 exact ⟨w',H,a1,a2,by omega,fun G h1 h2=>a4 G h1 (h2.trans xB),a5,fun i y hi hy=>a6 i y (xB.get hi) hy⟩
set_option maxRecDepth 100000 in
set_option maxHeartbeats 4000000 in
theorem run_rrest {base:Nat} {h:Heap} {v pv:AVal} {R:Rib} {p:List Ct} (hb:base≤h.length) (hA:RibAt h v R) (hR:RibOk R) (hP:Rows encC h pv p) (hp0:(plnL R p 0 0).2=0) :
  Ret prog raw base (.fn 65 [] []) [v,pv] h (fun w H=>Ext h H∧Own encS 84 h.length H w (spnN (tknL R p []) R.L.toNat)):=by
 have hAe:=fun H (e:Ext h H)=>hA.ext e
 obtain ⟨fv,wv,rfl,hF,hW⟩:=hA
 have o1:=hF.one
 have o2:=hW.one
 have op:=hP.one
 have hL:=hR.L
 have hnW:=hR.nW
 have hpl:=hP.1
 have hrg:=plnL_rng hp0
 obtain ⟨n,en⟩:=Int.eq_ofNat_of_zero_le (show 0≤R.L by omega)
 have en':R.L.toNat=n:=by omega
 obtain ⟨G0,eG0⟩:∃ G0,G0=h++[rrbB R.L fv wv]:=⟨_,rfl⟩
 have x0:Ext h G0:=by rw [eG0];exact .app .refl
 have g0:G0[h.length]?=some (rrbB R.L fv wv):=by rw [eG0];exact get_eq rfl
 have l0:G0.length=h.length+1:=by rw [eG0];simp
 obtain ⟨G,eG⟩:∃ G,G=G0++[mkB n []]:=⟨_,rfl⟩
 have xG:Ext G0 G:=by rw [eG];exact .app .refl
 have gm:G[G0.length]?=some (mkB n []):=by rw [eG];exact get_eq rfl
 have lG:G.length=G0.length+1:=by rw [eG];simp
 have mk:makeSliceA prog G0 36 (.int .i64 R.L) (.int .i64 R.L)=some (.slice (some ⟨G0.length,0,0⟩) n n,G):=by
  rw [en,make_full Fc.el36 (by omega) (by omega),eG,mkB,rowE,mrk_nil,← rep_flat]
  rfl
 have g1:=xG.get g0
 have hn:=fun {K} (e:Ext h K)=>rct_len (hP.ext e)
 have ak:∀ k:Nat,k<n→indexAddrA prog 36 (.slice (some ⟨G0.length,0,0⟩) n n) (.int .i64 (k:Int))=some (.ptr (some ⟨G0.length,0,k⟩)):=fun k hk=>by
  rw [adr_sl Fc.el36 Fc.ar36 (by omega) (by omega),Int.toNat_natCast,Nat.mul_one,Nat.zero_add]
 unfold rrbB at eG0 g0 g1
 refine ret_raw func65 rfl (by kernel_rfl) ?_
 have hsp:=@Nat.succ_ne_zero;repeat' (first|simp (disch:=first|exact dq|fail) only [go_sem,↓reduceIte,hsp,← eG0,g0,mk]|refine WP_drw ?_|refine cnd_intro (fun hsp=>?_) fun hsp=>?_)
 refine WP_count [(6,38)] 0 p.length (Nat.zero_le _) (fun _ i fr K=>fr 6=.int .i64 (i:Int)∧Ext G0 K∧G0.length<K.length∧K[G0.length]?=some (mkB n ((p.take i).flatMap (takU R)))) ?_ ?_ ?_
 ·exact ⟨by (simp (disch:=first|exact dq|fail) only [go_sem,↓reduceIte,Int.natCast_zero];first|done|rfl),xG,by omega,gm⟩
 ·rintro i fr K hi0 hi hAg ⟨r6,xK,lK,gK⟩
  have q1:=hAg 1 rfl
  have q2:=hAg 2 rfl
  have q4:=hAg 4 rfl
  have q5:=hAg 5 rfl
  try simp (disch:=first|exact dq|fail) only [go_sem,↓reduceIte] at q1 q2 q4 q5
  have hlt:((i:Int)<(p.length:Int))=True:=eq_true (by omega)
  obtain ⟨c,ec⟩:∃ c,c=p[i]:=⟨_,rfl⟩
  have hx:p[i]?=some c:=by rw [ec];exact List.getElem?_eq_getElem hi
  have xh:=x0.trans xK
  have iP:=hP.ext xh
  have hnK:=hn xh
  have a1:=rct_ad iP hi
  have b1:=rct_ld iP hx
  have g0K:=xK.get g0
  obtain ⟨⟨c1,c2⟩,e,hto⟩:=hrg c (List.mem_of_getElem? hx)
  obtain ⟨k,ek⟩:=Int.eq_ofNat_of_zero_le c1.1
  obtain ⟨x,ex⟩:=Int.eq_ofNat_of_zero_le c2.1
  have hwk:R.W[k]?=some (R.W[k]'(by omega)):=List.getElem?_eq_getElem (by omega)
  generalize R.W[k]'(by omega)=w at hwk
  have hxl:x<R.L.toNat:=by omega
  obtain ⟨lv,K2,e2,x2,oV⟩:=run_takes (base:=base) (k:=k) (x:=x) (j:=c.j) (by omega) (hAe K xh) hR hwk hxl
  have etc:takC R c=takL R w x c.j:=by unfold takC;rw [ek,Int.toNat_natCast,hwk];simp only;rw [ex,Int.toNat_natCast]
  have hok:okT R w x c.j=true:=by
   rw [etc] at hto
   unfold takL at hto
   split at hto
   ·rename_i z;exact z.1
   ·simp at hto
  have etu:takU R c=(uniP R w x c.j).1:=by
   unfold takU;rw [ek,Int.toNat_natCast,hwk];simp only
   rw [ex,Int.toNat_natCast];unfold uniO
   rw [if_neg]
   intro q
   unfold okT at hok;rw [q] at hok;simp at hok
  obtain ⟨u0,hu1,hu2,hUK,-⟩:=uniP_k (w:=w) (j:=c.j) hR hxl
  rw [← etu] at oV hUK
  rw [← ek,← ex] at e2
  obtain ⟨l,el⟩:∃ l,l=takU R c:=⟨_,rfl⟩
  rw [← el] at oV hUK
  have hlsm:=unK_small hUK (by omega)
  have olv:=oV.one
  have l2:=x2.len
  have hln:=hUK.n
  obtain ⟨S,eS⟩:∃ S,S=(p.take i).flatMap (takU R):=⟨_,rfl⟩
  rw [← eS] at gK
  have hS2:(p.take (i+1)).flatMap (takU R)=S++l:=by rw [List.take_add_one,hx,List.flatMap_append,← eS,el];simp
  have gK2:=x2.get gK
  have hsp:=@Nat.succ_ne_zero;repeat' (first|simp (disch:=first|exact dq|fail) only [go_sem,↓reduceIte,hsp,r6,q1,q2,q4,q5,hnK,hlt,g0K,a1,b1,e2]|refine WP_drw ?_|refine cnd_intro (fun hsp=>?_) fun hsp=>?_)
  refine WP_count [(8,38)] 0 l.length (Nat.zero_le _) (fun _ j fr X=>fr 8=.int .i64 (j:Int)∧X=K2.set G0.length (mkB n (S++l.take j))) ?_ ?_ ?_
  ·exact ⟨by (simp (disch:=first|exact dq|fail) only [go_sem,↓reduceIte,Int.natCast_zero];first|done|rfl),by rw [List.take_zero,List.append_nil,set_id gK2]⟩
  ·rintro j fr2 X hj0 hj hA2 ⟨r8,eX⟩
   have d1:=hA2 1 rfl
   have d2:=hA2 2 rfl
   have d4:=hA2 4 rfl
   have d5:=hA2 5 rfl
   have d6:=hA2 6 rfl
   have d7:=hA2 7 rfl
   try simp (disch:=first|exact dq|fail) only [go_sem,↓reduceIte,q1,q2,q4,q5] at d1 d2 d4 d5 d6 d7
   have hlt2:((j:Int)<(l.length:Int))=True:=eq_true (by omega)
   have oX:Own encI 3 K.length X lv l:=by rw [eX];exact oV.set (by omega)
   have iX:=own_ints oX hlsm
   have hlX:=lenI iX
   have aj:=adrI (i:=(j:Int)) (by omega) iX (by omega)
   rw [Int.toNat_natCast] at aj
   have lj:=loadI iX hj
   have hyb:=hUK.b _ (getD_mem' (l:=l) (d:=0) hj)
   obtain ⟨y,ey⟩:=Int.eq_ofNat_of_zero_le (show 0≤l.getD j 0 by omega)
   rw [ey] at lj
   have aky:=ak y (by omega)
   have gX:X[G0.length]?=some (mkB n (S++l.take j)):=by rw [eX];exact get_set_same (by omega)
   have hst:=fun {F:ABlk→Heap}=>st_mrk (base:=base) (id:=G0.length) (n:=n) (k:=y) (S:=S++l.take j) (F:=F) (by omega) (by omega)
   have etk:S++l.take (j+1)=S++l.take j++[(y:Int)]:=by rw [take_succD hj,ey,List.append_assoc]
   have hsp:=@Nat.succ_ne_zero;repeat' (first|simp (disch:=first|exact dq|fail) only [go_sem,↓reduceIte,hsp,r8,d1,d2,d4,d5,d6,d7,q1,q2,q4,q5,hlX,hlt2,aj,lj,aky,gX,hst]|refine WP_drw ?_|refine cnd_intro (fun hsp=>?_) fun hsp=>?_)
   exact ⟨agq,by omega,by rw [eX,List.set_set,etk]⟩
  ·rintro fr2 X hA2 ⟨r8,eX⟩
   have d1:=hA2 1 rfl
   have d2:=hA2 2 rfl
   have d4:=hA2 4 rfl
   have d5:=hA2 5 rfl
   have d6:=hA2 6 rfl
   have d7:=hA2 7 rfl
   try simp (disch:=first|exact dq|fail) only [go_sem,↓reduceIte,q1,q2,q4,q5] at d1 d2 d4 d5 d6 d7
   have hlt2:((l.length:Int)<(l.length:Int))=False:=eq_false (by omega)
   have d6:=hA2 6 rfl
   simp (disch:=first|exact dq|fail) only [go_sem,↓reduceIte,r6] at d6
   have oX:Own encI 3 K.length X lv l:=by rw [eX];exact oV.set (by omega)
   have hlX:=lenI (own_ints oX hlsm)
   rw [List.take_length] at eX
   have gX:X[G0.length]?=some (mkB n (S++l)):=by rw [eX];exact get_set_same (by omega)
   have xX:Ext G0 X:=by rw [eX];exact (xK.trans x2).set (Nat.le_refl _)
   have lX:G0.length<X.length:=by rw [eX,List.length_set];omega
   have hsp:=@Nat.succ_ne_zero;repeat' (first|simp (disch:=first|exact dq|fail) only [go_sem,↓reduceIte,hsp,r8,d6,d1,d2,d4,d5,d6,d7,q1,q2,q4,q5,hlX,hlt2]|refine WP_drw ?_|refine cnd_intro (fun hsp=>?_) fun hsp=>?_)
   exact ⟨agq,by omega,xX,lX,by rw [hS2];exact gX⟩
 ·rintro fr K hAg ⟨r6,xK,lK,gK⟩
  have q1:=hAg 1 rfl
  have q2:=hAg 2 rfl
  have q4:=hAg 4 rfl
  have q5:=hAg 5 rfl
  try simp (disch:=first|exact dq|fail) only [go_sem,↓reduceIte] at q1 q2 q4 q5
  have hlt:((p.length:Int)<(p.length:Int))=False:=eq_false (by omega)
  have hnK:=hn (x0.trans xK)
  rw [List.take_length] at gK
  obtain ⟨S,eS⟩:∃ S,S=p.flatMap (takU R):=⟨_,rfl⟩
  rw [← eS] at gK
  have hres:spnN S n=spnN (tknL R p []) R.L.toNat:=by
   rw [en']
   exact spnN_congr fun k _=>by rw [tknL_mem,eS];simp
  rw [← hres]
  have hsp:=@Nat.succ_ne_zero;repeat' (first|simp (disch:=first|exact dq|fail) only [go_sem,↓reduceIte,hsp,r6,q1,q2,q4,q5,hnK,hlt]|refine WP_drw ?_|refine cnd_intro (fun hsp=>?_) fun hsp=>?_)
  refine WP_count [(9,82)] 0 n (Nat.zero_le _) (fun _ u fr X=>fr 10=.int .i64 (u:Int)∧Ext K X∧∃ m w,fr 9=w∧Own encS 84 K.length X w (spnN S m)∧Rch S n u m) ?_ ?_ ?_
  ·exact ⟨by (simp (disch:=first|exact dq|fail) only [go_sem,↓reduceIte,Int.natCast_zero];first|done|rfl),.refl,0,.slice none 0 0,by (simp (disch:=first|exact dq|fail) only [go_sem,↓reduceIte,Int.natCast_zero];first|done|rfl),Own.nil,Rch.start⟩
  ·rintro u fr2 X hu0 hu hA2 ⟨r10,xX,m,w,r9,oW,hr⟩
   have d2:=hA2 2 rfl
   have d4:=hA2 4 rfl
   have d5:=hA2 5 rfl
   try simp (disch:=first|exact dq|fail) only [go_sem,↓reduceIte,q2,q4,q5] at d2 d4 d5
   have hltu:((u:Int)<R.L)=True:=eq_true (by omega)
   have ow:=oW.one
   have g0X:=xX.get (xK.get g0)
   have gX:=xX.get gK
   have au:=ak u hu
   have lu:=ld_mrk gX hu
   have lX:=xX.len
   by_cases c1:(u:Int) ∈ S
   ·obtain ⟨rfl,hr'⟩:=hr.mark hu c1
    rw [decide_eq_true c1] at lu
    have hsp:=@Nat.succ_ne_zero;repeat' (first|simp (disch:=first|exact dq|fail) only [go_sem,↓reduceIte,hsp,r10,r9,d2,d4,d5,q1,q2,q4,q5,g0X,hltu,au,lu]|refine WP_drw ?_|refine cnd_intro (fun hsp=>?_) fun hsp=>?_)
    exact ⟨agq,by omega,xX,m+1,w,rfl,by rw [spn_skip c1];exact oW,hr'⟩
   ·rw [decide_eq_false c1] at lu
    by_cases c2:0<u
    ·have t2:((u:Int) > 0)=True:=eq_true (by omega)
     have ap:indexAddrA prog 36 (.slice (some ⟨G0.length,0,0⟩) n n) (.int .i64 ((u:Int)-1))=some (.ptr (some ⟨G0.length,0,u-1⟩)):=by
      have:=ak (u-1) (by omega)
      rwa [show ((u-1:Nat):Int)=(u:Int)-1 by omega] at this
     have lp:=ld_mrk gX (k:=u-1) (by omega)
     rw [show ((u-1:Nat):Int)=(u:Int)-1 by omega] at lp
     by_cases c3:(u:Int)-1 ∈ S
     ·rw [decide_eq_true c3] at lp
      have hs:u=0 ∨ (u:Int)-1 ∈ S:=.inr c3
      obtain ⟨v,hv1,hv2,hvf,hve,hspn⟩:=run_end hu c1 hs
      obtain ⟨rfl,hr'⟩:=hr.new hu hs ⟨hv1,hv2⟩ hvf hve
      have hsp:=@Nat.succ_ne_zero;repeat' (first|simp (disch:=first|exact dq|fail) only [go_sem,↓reduceIte,hsp,r10,r9,d2,d4,d5,q1,q2,q4,q5,g0X,hltu,au,lu,t2,ap,lp]|refine WP_drw ?_|refine cnd_intro (fun hsp=>?_) fun hsp=>?_)
      refine WP_count [(11,76)] m v hv1 (fun _ i fr Y=>fr 11=.int .i64 (i:Int)∧Y=X) ?_ ?_ ?_
      ·exact ⟨by (simp (disch:=first|exact dq|fail) only [go_sem,↓reduceIte,Int.natCast_zero];first|done|rfl),rfl⟩
      ·rintro i fr3 Y hi0 hi hA3 ⟨r11,rfl⟩
       have z2:=hA3 2 rfl
       have z4:=hA3 4 rfl
       have z5:=hA3 5 rfl
       have z9:=hA3 9 rfl
       have z10:=hA3 10 rfl
       try simp (disch:=first|exact dq|fail) only [go_sem,↓reduceIte,d2,d4,d5] at z2 z4 z5 z9 z10
       have t3:((i:Int)+1<R.L)=True:=eq_true (by omega)
       have ai:indexAddrA prog 36 (.slice (some ⟨G0.length,0,0⟩) n n) (.int .i64 ((i:Int)+1))=some (.ptr (some ⟨G0.length,0,i+1⟩)):=by
        have:=ak (i+1) (by omega)
        rwa [show ((i+1:Nat):Int)=(i:Int)+1 by omega] at this
       have li:=ld_mrk gX (k:=i+1) (by omega)
       rw [decide_eq_false (hvf (i+1) (by omega) (by omega))] at li
       have hsp:=@Nat.succ_ne_zero;repeat' (first|simp (disch:=first|exact dq|fail) only [go_sem,↓reduceIte,hsp,r11,z2,z4,z5,z9,z10,d2,d4,d5,q1,q2,q4,q5,g0X,t3,ai,li]|refine WP_drw ?_|refine cnd_intro (fun hsp=>?_) fun hsp=>?_)
       exact ⟨agq,by omega⟩
      ·rintro fr3 Y hA3 ⟨r11,rfl⟩
       have z2:=hA3 2 rfl
       have z4:=hA3 4 rfl
       have z5:=hA3 5 rfl
       have z9:=hA3 9 rfl
       have z10:=hA3 10 rfl
       try simp (disch:=first|exact dq|fail) only [go_sem,↓reduceIte,d2,d4,d5] at z2 z4 z5 z9 z10
       have d10:=hA3 10 rfl
       have d9:=hA3 9 rfl
       simp (disch:=first|exact dq|fail) only [go_sem,↓reduceIte,r10] at d10
       simp (disch:=first|exact dq|fail) only [go_sem,↓reduceIte,r9] at d9
       obtain ⟨w',K2,ea,oW',lW,eW,oneW,kW⟩:=snocS (base:=base) (r:=((m:Int),(v:Int))) oW (by omega) (by omega) (by have:=spnN_len (t:=S) (n:=m);omega)
       rw [← hspn] at oW'
       by_cases c5:v+1<n
       ·have t3:((v:Int)+1<R.L)=True:=eq_true (by omega)
        have ai:indexAddrA prog 36 (.slice (some ⟨G0.length,0,0⟩) n n) (.int .i64 ((v:Int)+1))=some (.ptr (some ⟨G0.length,0,v+1⟩)):=by
         have:=ak (v+1) (by omega)
         rwa [show ((v+1:Nat):Int)=(v:Int)+1 by omega] at this
        have li:=ld_mrk gX (k:=v+1) (by omega)
        rw [decide_eq_true (hve c5)] at li
        have hsp:=@Nat.succ_ne_zero;repeat' (first|simp (disch:=first|exact dq|fail) only [go_sem,↓reduceIte,hsp,r11,d10,d9,z2,z4,z5,z9,z10,d2,d4,d5,q1,q2,q4,q5,g0X,t3,ai,li,bsS1,ea]|refine WP_drw ?_|refine cnd_intro (fun hsp=>?_) fun hsp=>?_)
        exact ⟨agq,by omega,eW K (Nat.le_refl _) xX,v+1,w',rfl,oW',hr'⟩
       ·have t3:((v:Int)+1<R.L)=False:=eq_false (by omega)
        have hsp:=@Nat.succ_ne_zero;repeat' (first|simp (disch:=first|exact dq|fail) only [go_sem,↓reduceIte,hsp,r11,d10,d9,z2,z4,z5,z9,z10,d2,d4,d5,q1,q2,q4,q5,g0X,t3,bsS1,ea]|refine WP_drw ?_|refine cnd_intro (fun hsp=>?_) fun hsp=>?_)
        exact ⟨agq,by omega,eW K (Nat.le_refl _) xX,v+1,w',rfl,oW',hr'⟩
     ·rw [decide_eq_false c3] at lp
      have hsp:=@Nat.succ_ne_zero;repeat' (first|simp (disch:=first|exact dq|fail) only [go_sem,↓reduceIte,hsp,r10,r9,d2,d4,d5,q1,q2,q4,q5,g0X,hltu,au,lu,t2,ap,lp]|refine WP_drw ?_|refine cnd_intro (fun hsp=>?_) fun hsp=>?_)
      exact ⟨agq,by omega,xX,m,w,rfl,oW,hr.go hu c1 c2 c3⟩
    ·have t2:((u:Int) > 0)=False:=eq_false (by omega)
     have ap:True:=trivial
     have lp:True:=trivial
     have hs:u=0 ∨ (u:Int)-1 ∈ S:=.inl (by omega)
     obtain ⟨v,hv1,hv2,hvf,hve,hspn⟩:=run_end hu c1 hs
     obtain ⟨rfl,hr'⟩:=hr.new hu hs ⟨hv1,hv2⟩ hvf hve
     have hsp:=@Nat.succ_ne_zero;repeat' (first|simp (disch:=first|exact dq|fail) only [go_sem,↓reduceIte,hsp,r10,r9,d2,d4,d5,q1,q2,q4,q5,g0X,hltu,au,lu,t2,ap,lp]|refine WP_drw ?_|refine cnd_intro (fun hsp=>?_) fun hsp=>?_)
     refine WP_count [(11,76)] m v hv1 (fun _ i fr Y=>fr 11=.int .i64 (i:Int)∧Y=X) ?_ ?_ ?_
     ·exact ⟨by (simp (disch:=first|exact dq|fail) only [go_sem,↓reduceIte,Int.natCast_zero];first|done|rfl),rfl⟩
     ·rintro i fr3 Y hi0 hi hA3 ⟨r11,rfl⟩
      have z2:=hA3 2 rfl
      have z4:=hA3 4 rfl
      have z5:=hA3 5 rfl
      have z9:=hA3 9 rfl
      have z10:=hA3 10 rfl
      try simp (disch:=first|exact dq|fail) only [go_sem,↓reduceIte,d2,d4,d5] at z2 z4 z5 z9 z10
      have t3:((i:Int)+1<R.L)=True:=eq_true (by omega)
      have ai:indexAddrA prog 36 (.slice (some ⟨G0.length,0,0⟩) n n) (.int .i64 ((i:Int)+1))=some (.ptr (some ⟨G0.length,0,i+1⟩)):=by
       have:=ak (i+1) (by omega)
       rwa [show ((i+1:Nat):Int)=(i:Int)+1 by omega] at this
      have li:=ld_mrk gX (k:=i+1) (by omega)
      rw [decide_eq_false (hvf (i+1) (by omega) (by omega))] at li
      have hsp:=@Nat.succ_ne_zero;repeat' (first|simp (disch:=first|exact dq|fail) only [go_sem,↓reduceIte,hsp,r11,z2,z4,z5,z9,z10,d2,d4,d5,q1,q2,q4,q5,g0X,t3,ai,li]|refine WP_drw ?_|refine cnd_intro (fun hsp=>?_) fun hsp=>?_)
      exact ⟨agq,by omega⟩
     ·rintro fr3 Y hA3 ⟨r11,rfl⟩
      have z2:=hA3 2 rfl
      have z4:=hA3 4 rfl
      have z5:=hA3 5 rfl
      have z9:=hA3 9 rfl
      have z10:=hA3 10 rfl
      try simp (disch:=first|exact dq|fail) only [go_sem,↓reduceIte,d2,d4,d5] at z2 z4 z5 z9 z10
      have d10:=hA3 10 rfl
      have d9:=hA3 9 rfl
      simp (disch:=first|exact dq|fail) only [go_sem,↓reduceIte,r10] at d10
      simp (disch:=first|exact dq|fail) only [go_sem,↓reduceIte,r9] at d9
      obtain ⟨w',K2,ea,oW',lW,eW,oneW,kW⟩:=snocS (base:=base) (r:=((m:Int),(v:Int))) oW (by omega) (by omega) (by have:=spnN_len (t:=S) (n:=m);omega)
      rw [← hspn] at oW'
      by_cases c5:v+1<n
      ·have t3:((v:Int)+1<R.L)=True:=eq_true (by omega)
       have ai:indexAddrA prog 36 (.slice (some ⟨G0.length,0,0⟩) n n) (.int .i64 ((v:Int)+1))=some (.ptr (some ⟨G0.length,0,v+1⟩)):=by
        have:=ak (v+1) (by omega)
        rwa [show ((v+1:Nat):Int)=(v:Int)+1 by omega] at this
       have li:=ld_mrk gX (k:=v+1) (by omega)
       rw [decide_eq_true (hve c5)] at li
       have hsp:=@Nat.succ_ne_zero;repeat' (first|simp (disch:=first|exact dq|fail) only [go_sem,↓reduceIte,hsp,r11,d10,d9,z2,z4,z5,z9,z10,d2,d4,d5,q1,q2,q4,q5,g0X,t3,ai,li,bsS1,ea]|refine WP_drw ?_|refine cnd_intro (fun hsp=>?_) fun hsp=>?_)
       exact ⟨agq,by omega,eW K (Nat.le_refl _) xX,v+1,w',rfl,oW',hr'⟩
      ·have t3:((v:Int)+1<R.L)=False:=eq_false (by omega)
       have hsp:=@Nat.succ_ne_zero;repeat' (first|simp (disch:=first|exact dq|fail) only [go_sem,↓reduceIte,hsp,r11,d10,d9,z2,z4,z5,z9,z10,d2,d4,d5,q1,q2,q4,q5,g0X,t3,bsS1,ea]|refine WP_drw ?_|refine cnd_intro (fun hsp=>?_) fun hsp=>?_)
       exact ⟨agq,by omega,eW K (Nat.le_refl _) xX,v+1,w',rfl,oW',hr'⟩
  ·rintro fr2 X hA2 ⟨r10,xX,m,w,r9,oW,hr⟩
   have d2:=hA2 2 rfl
   have d4:=hA2 4 rfl
   have d5:=hA2 5 rfl
   try simp (disch:=first|exact dq|fail) only [go_sem,↓reduceIte,q2,q4,q5] at d2 d4 d5
   have hltu:((n:Int)<R.L)=False:=eq_false (by omega)
   have ow:=oW.one
   have g0X:=xX.get (xK.get g0)
   have hsp:=@Nat.succ_ne_zero;repeat' (first|simp (disch:=first|exact dq|fail) only [go_sem,↓reduceIte,hsp,r10,r9,d2,d4,d5,q1,q2,q4,q5,g0X,hltu]|refine WP_drw ?_|refine cnd_intro (fun hsp=>?_) fun hsp=>?_)
   rw [hr.last] at oW
   exact ⟨(x0.trans xK).trans xX,oW.low (by omega)⟩
end Go.AM
namespace Go.AM
open Go.Proofs.Tryz Go.RowKit Go.ChangeShapes Go.WideShapes Go.ChangeAt
open Go.Proofs.YtikgghhceolaeaaGreat (Rows.uptoSmall Rows.uptoBulkAll Rows.uptoBulk)
set_option maxRecDepth 100000
def Rw.okG (μ:Mu) (w:World) (r:Rw):Prop:=∃ (C:Array Value) (T:TypeId) (fz:Nat × Nat),w.heap[r.blk]?=some (.cells C T fz)∧r.off+r.cs.length≤C.size ∧
 ∀ (i:Nat) (x:AVal) (y:Value),r.cs[i]?=some x→C[r.off+i]?=some y→VR μ x y
def RsOk (w:World) (R:List Rw):Prop:=∀ r ∈ R,r.okG (muR R) w
def Opens (W:World) (cs:List Value) (Q:Heap→List AVal→Prop):Prop:=∀ R,RsOk W R→∃ S vs,RsOk W (R++S)∧VRs (muR (R++S)) vs cs∧Q (heapR (R++S)) vs
def OpensV (W:World) (V:Value) (Q:Heap→AVal→Prop):Prop:=∀ R,RsOk W R→∃ S v,RsOk W (R++S)∧VR (muR (R++S)) v V∧Q (heapR (R++S)) v
end Go.AM
namespace Go.AM
open Go.Proofs.Tryz Go.RowKit Go.ChangeShapes Go.WideShapes Go.ChangeAt
open Go.Proofs.YtikgghhceolaeaaGreat (Rows.uptoSmall Rows.uptoBulkAll Rows.uptoBulk)
set_option maxRecDepth 100000
def IntsN (N:Nat) (H:Heap) (v:AVal):Prop:=∃ l,Ints H v l∧l.length≤N
def CtsN (N:Nat) (H:Heap) (v:AVal):Prop:=∃ l,Rows encC H v l∧l.length≤N
section
variable {H:Type} {enc:TypeId × Value→H} {W:World} {n N:Nat}
end
end Go.AM
namespace Go.AM
open Go.Proofs.Tryz
attribute [-go_sem] put_ne put_same
attribute [local go_sem ↓] put_if
set_option maxRecDepth 100000 in
set_option maxHeartbeats 8000000 in
theorem run_CutPlans {base:Nat} {h:Heap} {v0 v1:AVal} (hA0:RibN 1048576 h v0) (hP0:CtsN 1048576 h v1) :
  callL prog raw base (.fn 23 [] []) [v0,v1] h=some (.bool true,h):=by
 obtain ⟨R,hA,-,-⟩:=hA0
 obtain ⟨p,hP,-⟩:=hP0
 have hAA:=hA
 obtain ⟨fv,wv,rfl,hF,hW⟩:=hAA
 have o1:=hF.one
 have o2:=hW.one
 have o3:=hP.one
 obtain ⟨G0,eG0⟩:∃ G0,G0=h++[ribB R.L fv wv]:=⟨_,rfl⟩
 have x0:Ext h G0:=by rw [eG0];exact .app .refl
 have g0:G0[h.length]?=some (ribB R.L fv wv):=by rw [eG0];exact get_eq rfl
 have lG0:G0.length=h.length+1:=by rw [eG0];simp
 have hg:=fun base=>run_great (base:=base) (hA.ext x0)
 have hlp:=(hP.ext x0).len (P:=prog) Fc.el51
 have haw:=fun base=>run_awake (base:=base) (h:=G0)
 unfold ribB at eG0
 have g0':=g0
 unfold ribB at g0'
 refine callL_run func23 rfl rfl ?_
 by_cases cg:20<R.F.length ∨ 12<R.W.length
 ·rw [decide_eq_true cg] at hg
  have hsp:=@Nat.succ_ne_zero;repeat' (first|simp (disch:=first|exact dq|fail) only [go_sem,↓reduceIte,hsp,← eG0,g0',hg,haw]|refine WP_drw ?_|refine cnd_intro (fun hsp=>?_) fun hsp=>?_)
  exact fB rfl x0
 ·rw [decide_eq_false cg] at hg
  by_cases cl:70<p.length
  ·have t1:((p.length:Int) > 70)=True:=eq_true (by omega)
   have hsp:=@Nat.succ_ne_zero;repeat' (first|simp (disch:=first|exact dq|fail) only [go_sem,↓reduceIte,hsp,← eG0,g0',hg,hlp,t1,haw]|refine WP_drw ?_|refine cnd_intro (fun hsp=>?_) fun hsp=>?_)
   exact fB rfl x0
  ·have t1:((p.length:Int) > 70)=False:=eq_false (by omega)
   obtain ⟨_,G1,e1,x1,fw,ww,rfl,oF,oW⟩:=run_own (base:=h.length) (h:=G0) (by omega) (hA.ext x0) (by omega) (by omega)
   have l1:=x1.len
   obtain ⟨_,G2,e2,x2,aT,fw2,ww2,rfl,of2,ow2⟩:=run_theirs (base:=h.length) (h:=G1) (by omega) (hA.ext (x0.trans x1)) (by omega) (by omega)
   have l2:=x2.len
   obtain ⟨pw,G3,e3,x3,oP⟩:=run_dupC (base:=h.length) (h:=G2) (by omega) (hP.ext ((x0.trans x1).trans x2)) (by omega)
   have l3:=x3.len
   have ofw:=oF.one
   have oww:=oW.one
   have opw:=oP.one
   obtain ⟨G4,eG4⟩:∃ G4,G4=G3++[ribB R.L fw ww]++[rrbB R.L fw2 ww2]:=⟨_,rfl⟩
   have x4:Ext G3 G4:=by rw [eG4];exact .app (.app .refl)
   have l4:G4.length=G3.length+2:=by rw [eG4];simp
   have gO4:G4[G3.length]?=some (ribB R.L fw ww):=by rw [eG4];exact get_app (get_eq rfl)
   have gT4:G4[G3.length+1]?=some (rrbB R.L fw2 ww2):=by rw [eG4];exact get_eq (by simp)
   have x14:=(x2.trans x3).trans x4
   have xh4:Ext h G4:=(x0.trans x1).trans x14
   have aO4:RibAt G4 (.agg [.int .i64 R.L,fw,ww]) R:=⟨fw,ww,rfl,(ownE_ints oF ⟨by omega,hF.1.2⟩).ext x14,(oW.rows (by omega)).ext x14⟩
   have aT4:RibAt G4 (.agg [.int .i64 R.L,fw2,ww2]) R:=aT.ext (x3.trans x4)
   have pO4:Rows encC G4 pw p:=(oP.rows (by omega)).ext x4
   have gc4:G4[h.length]?=some (ribB R.L fv wv):=(x1.trans x14).get g0
   have hck:=fun base=>run_rcheck (base:=base) aT4 (by omega) (by omega)
   have g01:=x1.get g0'
   unfold ribB rrbB at eG4
   unfold rrbB at gT4
   by_cases c:chkR R=0
   ·have hok:=chkR_iff.1 c
    have hL:=hok.L
    rw [c] at hck
    obtain ⟨d1,D1,f1,y1,oD1⟩:=run_rcuts (base:=h.length) (h:=G4) (by omega) (hP.ext xh4) (by omega)
    have m1:=y1.len
    have od1:=oD1.one
    have hpl:=fun base=>run_rplan (base:=base) (aT4.ext y1) hok (oD1.rows (by omega))
    have gT5:=y1.get gT4
    have ev:plnE R p=((plnL R p 0 0).1,(plnL R p 0 0).2):=by unfold plnE;rw [if_neg (fun q=>q c)]
    by_cases cp:(plnL R p 0 0).2=0
    ·have t2:((plnL R p 0 0).2=0)=True:=eq_true cp
     obtain ⟨d2,D2,f2,y2,oD2⟩:=run_rcuts (base:=h.length) (h:=D1) (by omega) (hP.ext (xh4.trans y1)) (by omega)
     have m2:=y2.len
     have od2:=oD2.one
     obtain ⟨dv,Z,f3,y3,oR⟩:=run_rrest (base:=h.length) (h:=D2) (by omega) (aT4.ext (y1.trans y2)) hok (oD2.rows (by omega)) cp
     have odv:=oR.one
     have gT6:=y2.get gT5
     have xZ:=(y1.trans y2).trans y3
     obtain ⟨lc,elc⟩:∃ lc,lc=spnN (tknL R p []) R.L.toNat:=⟨_,rfl⟩
     have llc:lc.length≤60:=by rw [elc];have:=spnN_len (t:=tknL R p []) (n:=R.L.toNat);omega
     rw [← elc] at oR
     have hd:Rows encS Z dv lc:=oR.rows (by omega)
     have rv:rstE R p=(lc,(plnL R p 0 0).2):=by unfold rstE;rw [ev,cp,if_neg (fun q=>q rfl),elc]
     have lZ:=xZ.len
     have aO:=aO4.ext xZ
     have gO:=xZ.get gO4
     have gc:=xZ.get gc4
     have pO:=pO4.ext xZ
     have c1:=fun base=>run_Earns (base:=base) aO (by omega) pO
     rw [ev] at c1
     obtain ⟨_,Z1,c2,z1,u,rfl,oC⟩:=run_Rest (base:=h.length) (h:=Z) (by omega) aO (by omega) pO
     rw [rv] at c2 oC
     have oC:Own encS 84 Z.length Z1 u lc:=oC
     have lz1:=z1.len
     have ou:=oC.one
     have q1:=fun base=>run_eqS (base:=base) (oC.rows (by omega)) (hd.ext z1) (by omega)
     have q3:=fun base=>run_same (base:=base) (aO.ext z1) (hA.ext (xh4.trans (xZ.trans z1))) (by omega)
     have q4:=fun base=>run_eqC (base:=base) (pO.ext z1) (hP.ext (xh4.trans (xZ.trans z1))) (by omega)
     have q5:=fun base=>run_awake (base:=base) (h:=Z1)
     have gO1:=z1.get gO
     have gc1:=z1.get gc
     unfold ribB at gO gO1 gc1
     have hsp:=@Nat.succ_ne_zero;repeat' (first|simp (disch:=first|exact dq|fail) only [go_sem,↓reduceIte,hsp,← eG0,g0',hg,hlp,t1,e1,g01,e2,e3,← eG4,gT4,hck,eq_self,f1,gT5,hpl,t2,f2,gT6,f3,gO,c1,c2,gO1,decide_true,q1,q3,q4,q5,gc1]|refine WP_drw ?_|refine cnd_intro (fun hsp=>?_) fun hsp=>?_)
     exact fB rfl (xh4.trans (xZ.trans z1))
    ·have t2:((plnL R p 0 0).2=0)=False:=eq_false cp
     obtain ⟨Z,eZ⟩:∃ Z,Z=D1:=⟨_,rfl⟩
     have xZ:Ext G4 Z:=by rw [eZ];exact y1
     rw [← eZ] at f1 gT5 hpl
     obtain ⟨lc,elc⟩:∃ lc:List (Int × Int),lc=[]:=⟨_,rfl⟩
     have llc:lc.length≤60:=by rw [elc];simp
     have hd:Rows encS Z (.slice none 0 0) lc:=by rw [elc];exact Rows.nil
     have rv:rstE R p=(lc,(plnL R p 0 0).2):=by unfold rstE;rw [ev,if_pos cp,elc]
     have lZ:=xZ.len
     have aO:=aO4.ext xZ
     have gO:=xZ.get gO4
     have gc:=xZ.get gc4
     have pO:=pO4.ext xZ
     have c1:=fun base=>run_Earns (base:=base) aO (by omega) pO
     rw [ev] at c1
     obtain ⟨_,Z1,c2,z1,u,rfl,oC⟩:=run_Rest (base:=h.length) (h:=Z) (by omega) aO (by omega) pO
     rw [rv] at c2 oC
     have oC:Own encS 84 Z.length Z1 u lc:=oC
     have lz1:=z1.len
     have ou:=oC.one
     have q1:=fun base=>run_eqS (base:=base) (oC.rows (by omega)) (hd.ext z1) (by omega)
     have q3:=fun base=>run_same (base:=base) (aO.ext z1) (hA.ext (xh4.trans (xZ.trans z1))) (by omega)
     have q4:=fun base=>run_eqC (base:=base) (pO.ext z1) (hP.ext (xh4.trans (xZ.trans z1))) (by omega)
     have q5:=fun base=>run_awake (base:=base) (h:=Z1)
     have gO1:=z1.get gO
     have gc1:=z1.get gc
     unfold ribB at gO gO1 gc1
     have hsp:=@Nat.succ_ne_zero;repeat' (first|simp (disch:=first|exact dq|fail) only [go_sem,↓reduceIte,hsp,← eG0,g0',hg,hlp,t1,e1,g01,e2,e3,← eG4,gT4,hck,eq_self,f1,gT5,hpl,t2,gO,c1,c2,gO1,decide_true,q1,q3,q4,q5,gc1]|refine WP_drw ?_|refine cnd_intro (fun hsp=>?_) fun hsp=>?_)
     exact fB rfl (xh4.trans (xZ.trans z1))
   ·have tu:(chkR R=0)=False:=eq_false c
    obtain ⟨Z,eZ⟩:∃ Z,Z=G4:=⟨_,rfl⟩
    have xZ:Ext G4 Z:=by rw [eZ];exact .refl
    rw [← eZ] at eG4 gT4 hck
    obtain ⟨lc,elc⟩:∃ lc:List (Int × Int),lc=[]:=⟨_,rfl⟩
    have llc:lc.length≤60:=by rw [elc];simp
    have hd:Rows encS Z (.slice none 0 0) lc:=by rw [elc];exact Rows.nil
    have ev:plnE R p=(0,chkR R):=by unfold plnE;rw [if_pos c]
    have rv:rstE R p=(lc,chkR R):=by unfold rstE;rw [ev,if_pos c,elc]
    have lZ:=xZ.len
    have aO:=aO4.ext xZ
    have gO:=xZ.get gO4
    have gc:=xZ.get gc4
    have pO:=pO4.ext xZ
    have c1:=fun base=>run_Earns (base:=base) aO (by omega) pO
    rw [ev] at c1
    obtain ⟨_,Z1,c2,z1,u,rfl,oC⟩:=run_Rest (base:=h.length) (h:=Z) (by omega) aO (by omega) pO
    rw [rv] at c2 oC
    have oC:Own encS 84 Z.length Z1 u lc:=oC
    have lz1:=z1.len
    have ou:=oC.one
    have q1:=fun base=>run_eqS (base:=base) (oC.rows (by omega)) (hd.ext z1) (by omega)
    have q3:=fun base=>run_same (base:=base) (aO.ext z1) (hA.ext (xh4.trans (xZ.trans z1))) (by omega)
    have q4:=fun base=>run_eqC (base:=base) (pO.ext z1) (hP.ext (xh4.trans (xZ.trans z1))) (by omega)
    have q5:=fun base=>run_awake (base:=base) (h:=Z1)
    have gO1:=z1.get gO
    have gc1:=z1.get gc
    unfold ribB at gO gO1 gc1
    have hsp:=@Nat.succ_ne_zero;repeat' (first|simp (disch:=first|exact dq|fail) only [go_sem,↓reduceIte,hsp,← eG0,g0',hg,hlp,t1,e1,g01,e2,e3,← eG4,gT4,hck,eq_self,tu,gO,c1,c2,gO1,decide_true,q1,q3,q4,q5,gc1]|refine WP_drw ?_|refine cnd_intro (fun hsp=>?_) fun hsp=>?_)
    exact fB rfl (xh4.trans (xZ.trans z1))
end Go.AM
namespace Go.AM
def upS (s:List Int × List Int) (y:Nat) (a c:Int):List Int × List Int:=if thB true (a,c) (s.1.getD y 0,s.2.getD y 0)=true then (s.1.set y a,s.2.set y c) else s
def upC (x:Nat) (t:List Int × List Int) (c:Ct × Int × Int):List Int × List Int:=upS t c.2.1.toNat (t.1.getD x 0+c.2.2) (t.2.getD x 0+1)
def upX (R:Rib) (x:Nat) (s:List Int × List Int):List Int × List Int:=(cutL R x).foldl (upC x) (upS s (x+1) (s.1.getD x 0) (s.2.getD x 0))
def upN (R:Rib) (f:Nat):Nat→List Int × List Int
 | 0=>(List.replicate (R.L.toNat+1) 0,List.replicate (R.L.toNat+1) 0)
 | n+1=>upX R (f+n) (upN R f n)
structure UpK (n:Nat) (s:List Int × List Int):Prop where
 l1:s.1.length=n+1
 l2:s.2.length=n+1
 b1:∀ y:Nat,0≤s.1.getD y 0∧s.1.getD y 0≤100 * (y:Int)
 b2:∀ y:Nat,0≤s.2.getD y 0∧s.2.getD y 0≤(y:Int)
def keyS (s:List Int × List Int):Nat→Int:=fun i=>key true (s.1.getD i 0,s.2.getD i 0)
theorem getD_setD {l:List Int} {i j:Nat} {a:Int} (hj:j<l.length):(l.set j a).getD i 0=if i=j then a else l.getD i 0:=by
 simp only [List.getD_eq_getElem?_getD,List.getElem?_set]
 by_cases e:i=j
 ·subst e;rw [if_pos rfl,if_pos hj,if_pos rfl];rfl
 ·rw [if_neg (fun q=>e q.symm),if_neg e]
theorem UpK.one {n y:Nat} {s:List Int × List Int} {a c:Int} (h:UpK n s) (hn:n≤60) (hy:y≤n) (ha:0≤a∧a≤100 * (y:Int)) (hc:0≤c∧c≤(y:Int)):UpK n (upS s y a c)∧keyS (upS s y a c)=rlx (keyS s) y (key true (a,c))∧∀ x,x<y→(upS s y a c).1.getD x 0=s.1.getD x 0∧(upS s y a c).2.getD x 0=s.2.getD x 0:=by
 have h1:=h.l1
 have h2:=h.l2
 have q1:=h.b1 y
 have q2:=h.b2 y
 have hk:=thB_key (b:=true) (n:=(a,c)) (m:=(s.1.getD y 0,s.2.getD y 0)) (by simp only;omega) (by simp only;omega)
 unfold upS
 by_cases e:thB true (a,c) (s.1.getD y 0,s.2.getD y 0)=true
 ·rw [if_pos e]
  have hlt:=hk.1 e
  refine ⟨⟨by simp [h1],by simp [h2],fun z=>?_,fun z=>?_⟩,?_,fun x hx=>?_⟩
  ·simp only
   rw [getD_setD (by omega)]
   split
   ·rename_i q;subst q;exact ha
   ·exact h.b1 z
  ·simp only
   rw [getD_setD (by omega)]
   split
   ·rename_i q;subst q;exact hc
   ·exact h.b2 z
  ·funext i
   unfold keyS rlx
   simp only
   rw [getD_setD (by omega),getD_setD (by omega)]
   by_cases q:i=y
   ·subst q
    rw [if_pos rfl,if_pos rfl,if_pos rfl]
    exact (Int.max_eq_right (Int.le_of_lt hlt)).symm
   ·rw [if_neg q,if_neg q,if_neg q]
  ·simp only
   rw [getD_setD (by omega),getD_setD (by omega),if_neg (by omega),if_neg (by omega)]
   exact ⟨rfl,rfl⟩
 ·rw [if_neg e]
  have hlt:¬ key true (s.1.getD y 0,s.2.getD y 0)<key true (a,c):=fun q=>e (hk.2 q)
  refine ⟨h,?_,fun x _=>⟨rfl,rfl⟩⟩
  funext i
  unfold keyS rlx
  split
  ·rename_i q;subst q;exact (Int.max_eq_left (Int.not_lt.1 hlt)).symm
  ·rfl
section
variable {R:Rib} {x:Nat}
theorem upX_part (hR:RibOk R) (hx:x<R.L.toNat) {s:List Int × List Int} (h:UpK R.L.toNat s):∀ (l:List (Ct × Int × Int)) (t:List Int × List Int) (K:Nat→Int),(∀ c ∈ l,c ∈ cutL R x)→UpK R.L.toNat t→t.1.getD x 0=s.1.getD x 0→t.2.getD x 0=s.2.getD x 0→keyS t=K →
  UpK R.L.toNat (l.foldl (upC x) t)∧keyS (l.foldl (upC x) t)=l.foldl (fun K' c=>rlx K' c.2.1.toNat (keyS s x+omg true c.2.2)) K∧(l.foldl (upC x) t).1.getD x 0=s.1.getD x 0∧(l.foldl (upC x) t).2.getD x 0=s.2.getD x 0
 | [],t,K,_,k,e1,e2,e3=>⟨k,e3,e1,e2⟩
 | c :: l,t,K,hl,k,e1,e2,e3=>by
  have hL:=hR.L
  obtain ⟨hb,hf,hw0,hw1,w,hw,ht⟩:=cutL_b hR hx (hl c (by simp))
  have htb:=takL_b hR (hR.W w (List.mem_of_getElem? hw)) hx ht
  have b1:=h.b1 x
  have b2:=h.b2 x
  obtain ⟨g1,g2,g3⟩:=k.one (y:=c.2.1.toNat) (a:=t.1.getD x 0+c.2.2) (c:=t.2.getD x 0+1) (by omega) (by omega) (by rw [e1];omega) (by rw [e2];omega)
  have g4:=g3 x (by omega)
  rw [List.foldl_cons,List.foldl_cons]
  refine upX_part hR hx h l _ _ (fun d hd=>hl d (by simp [hd])) g1 (g4.1.trans e1) (g4.2.trans e2) ?_
  show keyS (upS t c.2.1.toNat (t.1.getD x 0+c.2.2) (t.2.getD x 0+1))=_
  rw [g2,e1,e2,key_add,e3,Int.add_comm]
  rfl
theorem UpK.step (hR:RibOk R) (hx:x<R.L.toNat) {s:List Int × List Int} (h:UpK R.L.toNat s):UpK R.L.toNat (upX R x s)∧keyS (upX R x s)=fwX R (omg true) x (keyS s):=by
 have hL:=hR.L
 have b1:=h.b1 x
 have b2:=h.b2 x
 obtain ⟨g1,g2,g3⟩:=h.one (y:=x+1) (a:=s.1.getD x 0) (c:=s.2.getD x 0) (by omega) (by omega) (by omega) (by omega)
 have g4:=g3 x (by omega)
 obtain ⟨p1,p2,-,-⟩:=upX_part hR hx h (cutL R x) _ _ (fun _ q=>q) g1 g4.1 g4.2 g2
 exact ⟨p1,p2⟩
theorem upN_ok (hR:RibOk R) {f:Nat}:∀ {n:Nat},f+n≤R.L.toNat→UpK R.L.toNat (upN R f n)∧keyS (upN R f n)=fwN R (omg true) n f (fun _=>0)
 | 0,_=>by
  have hz:∀ (n y:Nat),(List.replicate n (0:Int)).getD y 0=0:=fun n y=>by
   simp only [List.getD_eq_getElem?_getD,List.getElem?_replicate];split<;>rfl
  refine ⟨⟨by simp [upN],by simp [upN],fun y=>?_,fun y=>?_⟩,?_⟩
  ·simp only [upN,hz];omega
  ·simp only [upN,hz];omega
  ·funext i;simp only [keyS,upN,hz,fwN,key];rfl
 | n+1,h=>by
  obtain ⟨h1,h2⟩:=upN_ok hR (f:=f) (n:=n) (by omega)
  obtain ⟨g1,g2⟩:=h1.step hR (show f+n<R.L.toNat by omega)
  refine ⟨g1,?_⟩
  rw [fwN_succ,← h2];exact g2
theorem up_end (hR:RibOk R) {f:Nat} (hf:f≤R.L.toNat):(upN R f (R.L.toNat-f)).1.getD R.L.toNat 0=valD R f∧(upN R f (R.L.toNat-f)).2.getD R.L.toNat 0=(folD true R f).c:=by
 have hL:=hR.L
 obtain ⟨h1,h2⟩:=upN_ok hR (f:=f) (n:=R.L.toNat-f) (by omega)
 have h3:=fw_back hR (folD_back (b:=true) hR) hf
 rw [← h2] at h3
 have b1:=h1.b1 R.L.toNat
 have b2:=h1.b2 R.L.toNat
 have fb:=folD_bd (b:=true) (x:=f) hR
 rw [← folD_e (b:=true) hR hf]
 unfold keyS key at h3
 simp only [if_true] at h3
 omega
end
end Go.AM
