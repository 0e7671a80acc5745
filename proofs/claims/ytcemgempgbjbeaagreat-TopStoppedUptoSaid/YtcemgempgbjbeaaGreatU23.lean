/-
  Package power: what explains the sights (explain), the first list that is wished (first), Slipped.
-/
import Derived.Test.YtcemgempgbjbeaaGreatU22
import Derived.Test.YtcemgempgbjbeaaGreatU11
import Derived.Test.YtcemgempgbjbeaaGreatU12
import Derived.Test.YtcemgempgbjbeaaGreatU20
set_option linter.unusedSimpArgs false
set_option linter.unusedVariables false
namespace Go.AM
namespace F4
open Go.Proofs.Tryz
attribute [-go_sem] put_ne put_same
attribute [local go_sem ↓] put_if
theorem upto_getD {n i:Nat} (h:i<n):(upto n).getD i 0=(i:Int):=by
 unfold upto lst
 rw [List.getD_eq_getElem?_getD,List.getElem?_map,List.getElem?_range h]
 rfl
theorem run_xpl1 {base d db kb:Nat} {h:Heap} {P:Pwr} {k:Nat} {i:Int} (hD:DkAt h d P) (g1:h[db]?=some (dpB d)) (g2:h[kb]?=some (intB k)) (hk:k<6) (hi:0≤i∧i<9) :
  callL prog raw base (.fn 174 [] [.ptr (some ⟨db,0,0⟩),.ptr (some ⟨kb,0,0⟩)]) [.int .i64 i] h=some (.bool (drv P i k),h):=by
 obtain ⟨n,rfl⟩:=Int.eq_ofNat_of_zero_le hi.1
 obtain ⟨sv0,wv0,m,hd,_,_,hm⟩:=hD
 have dl:=dkL (sv:=sv0) (wv:=wv0) (s:=n) (k:=k) hm.1 (by omega) hk
 rw [hm.2 n k (by omega) hk] at dl
 have l1:=lt_of_get g1
 have l2:=lt_of_get g2
 unfold dpB at g1
 unfold intB at g2
 refine callL_run func174 rfl rfl ?_
 have hsp:=@Nat.succ_ne_zero;repeat' (first|simp (disch:=first|exact dq|fail) only [go_sem,↓reduceIte,hsp,g1,g2,hd,dl]|refine WP_drw ?_|refine cnd_intro (fun hsp=>?_) fun hsp=>?_)
 exact fB rfl
set_option maxHeartbeats 1000000 in
theorem run_xpl {base d:Nat} {h:Heap} {P:Pwr} {S l:List Int} {sv lv:AVal} (hD:DkAt h d P) (hS:Rows encI h sv S) (hk:S.length≤6) (hI:Ints h lv l) (hl:∀ x ∈ l,0≤x∧x<9) :
  callL prog raw base (.fn 86 [] []) [.ptr (some ⟨d,0,0⟩),sv,lv] h=some (.bool (xplB P S l),h):=by
 have so:=hS.one
 have lo:=hI.one
 obtain ⟨G,eG⟩:∃ G,G=h++[dpB d]:=⟨_,rfl⟩
 have x0:Ext h G:=by rw [eG];exact .app .refl
 have g0:G[h.length]?=some (dpB d):=by rw [eG];exact get_eq rfl
 have lG:G.length=h.length+1:=by rw [eG];simp
 have n1:=sgt_len (hS.ext x0)
 unfold dpB at eG
 refine callL_run func86 rfl rfl ?_
 have hsp:=@Nat.succ_ne_zero;repeat' (first|simp (disch:=first|exact dq|fail) only [go_sem,↓reduceIte,hsp,← eG,n1]|refine WP_drw ?_|refine cnd_intro (fun hsp=>?_) fun hsp=>?_)
 refine WP_count [(6,9),(12,33)] 0 S.length (Nat.zero_le _) (fun _ n fr h'=>fr 12=.int .i64 (n:Int)∧Ext G h'∧∀ k,k<n→(S.getD k 0=1→hitB P l k=false)∧(S.getD k 0=2→hitB P l k=true)) ?_ ?_ ?_
 ·exact ⟨by (simp (disch:=first|exact dq|fail) only [go_sem,↓reduceIte,Int.natCast_zero];first|done|rfl),.refl,fun k hk=>by omega⟩
 ·rintro n fr H hn0 hn hA ⟨r12,xH,hP⟩
  have p2:=hA 2 rfl
  have p3:=hA 3 rfl
  have p10:=hA 10 rfl
  have p11:=hA 11 rfl
  try simp (disch:=first|exact dq|fail) only [go_sem,↓reduceIte] at p2 p3 p10 p11
  have hlt:((n:Int)<(S.length:Int))=True:=eq_true (by omega)
  have xh:=x0.trans xH
  obtain ⟨a1,a2⟩:=sgt_at (hS.ext xh) hn
  have lH:=xh.len
  have gH:=xH.get g0
  have e2:=fun base=>anyF_I (base:=base) (h:=H++[intB n]) (g:=.fn 174 [] [.ptr (some ⟨h.length,0,0⟩),.ptr (some ⟨H.length,0,0⟩)]) (fun i=>drv P i n) (hI.ext xh).app (fun base x hx=>run_xpl1 (hD.ext (xh.trans (.app .refl))) (get_app gH) (get_eq rfl) (by omega) (hl x hx))
  have ehit:(l.any fun i=>drv P i n)=hitB P l n:=rfl
  rw [ehit] at e2
  unfold intB at e2
  have x3:Ext h (H++[⟨.cells [.int .i64 (n:Int)] 3 false false,0⟩]):=xh.app
  have no:∀ {b:Bool},hitB P l n=b→¬ ((S.getD n 0=1→b=false)∧(S.getD n 0=2→b=true))→xplB P S l=false:=fun {b} eb q=>by
   cases c:xplB P S l with
   | false=>rfl
   | true=>have:=xplB_iff.1 c n hn;rw [eb] at this;exact absurd this q
  have yes:∀ {b:Bool},hitB P l n=b→((S.getD n 0=1→b=false)∧(S.getD n 0=2→b=true))→∀ k,k<n+1→(S.getD k 0=1→hitB P l k=false)∧(S.getD k 0=2→hitB P l k=true):=fun {b} eb q k hk=>by
   by_cases e:k=n
   ·rw [e,eb];exact q
   ·exact hP k (by omega)
  by_cases c1:S.getD n 0=1
  ·have t1:(S.getD n 0=1)=True:=eq_true c1
   have t2:(S.getD n 0=2)=False:=eq_false (by omega)
   cases c:hitB P l n with
   | true =>
    rw [c] at e2
    rw [no c (fun q=>by have:=q.1 c1;cases this)]
    have hsp:=@Nat.succ_ne_zero;repeat' (first|simp (disch:=first|exact dq|fail) only [go_sem,↓reduceIte,hsp,r12,p2,p3,p10,p11,hlt,a1,a2,gH,e2,t1,t2]|refine WP_drw ?_|refine cnd_intro (fun hsp=>?_) fun hsp=>?_)
    exact fB rfl x3
   | false =>
    rw [c] at e2
    have hsp:=@Nat.succ_ne_zero;repeat' (first|simp (disch:=first|exact dq|fail) only [go_sem,↓reduceIte,hsp,r12,p2,p3,p10,p11,hlt,a1,a2,gH,e2,t1,t2]|refine WP_drw ?_|refine cnd_intro (fun hsp=>?_) fun hsp=>?_)
    exact ⟨agq,by omega,xH.app,yes c ⟨fun _=>rfl,fun q=>by omega⟩⟩
  ·have t1:(S.getD n 0=1)=False:=eq_false c1
   by_cases c2:S.getD n 0=2
   ·have t2:(S.getD n 0=2)=True:=eq_true c2
    cases c:hitB P l n with
    | true =>
     rw [c] at e2
     have hsp:=@Nat.succ_ne_zero;repeat' (first|simp (disch:=first|exact dq|fail) only [go_sem,↓reduceIte,hsp,r12,p2,p3,p10,p11,hlt,a1,a2,gH,e2,t1,t2]|refine WP_drw ?_|refine cnd_intro (fun hsp=>?_) fun hsp=>?_)
     exact ⟨agq,by omega,xH.app,yes c ⟨fun q=>absurd q c1,fun _=>rfl⟩⟩
    | false =>
     rw [c] at e2
     rw [no c (fun q=>by have:=q.2 c2;cases this)]
     have hsp:=@Nat.succ_ne_zero;repeat' (first|simp (disch:=first|exact dq|fail) only [go_sem,↓reduceIte,hsp,r12,p2,p3,p10,p11,hlt,a1,a2,gH,e2,t1,t2]|refine WP_drw ?_|refine cnd_intro (fun hsp=>?_) fun hsp=>?_)
     exact fB rfl x3
   ·have t2:(S.getD n 0=2)=False:=eq_false c2
    have hsp:=@Nat.succ_ne_zero;repeat' (first|simp (disch:=first|exact dq|fail) only [go_sem,↓reduceIte,hsp,r12,p2,p3,p10,p11,hlt,a1,a2,gH,e2,t1,t2]|refine WP_drw ?_|refine cnd_intro (fun hsp=>?_) fun hsp=>?_)
    exact ⟨agq,by omega,xH.app,yes rfl ⟨fun q=>absurd q c1,fun q=>absurd q c2⟩⟩
 ·rintro fr H hA ⟨r12,xH,hP⟩
  have p2:=hA 2 rfl
  have p3:=hA 3 rfl
  have p10:=hA 10 rfl
  have p11:=hA 11 rfl
  try simp (disch:=first|exact dq|fail) only [go_sem,↓reduceIte] at p2 p3 p10 p11
  have hlt:((S.length:Int)<(S.length:Int))=False:=eq_false (by omega)
  rw [xplB_iff.2 hP]
  have hsp:=@Nat.succ_ne_zero;repeat' (first|simp (disch:=first|exact dq|fail) only [go_sem,↓reduceIte,hsp,r12,p2,p3,p10,p11,hlt]|refine WP_drw ?_|refine cnd_intro (fun hsp=>?_) fun hsp=>?_)
  exact fB rfl (x0.trans xH)
def moreP (M ob W Lm R:Nat):AVal:=.fn 173 [] [.ptr (some ⟨M,0,0⟩),.ptr (some ⟨ob,0,0⟩),.ptr (some ⟨W,0,0⟩),.ptr (some ⟨Lm,0,0⟩),.ptr (some ⟨R,0,0⟩)]
def MorePt (H:Heap) (ob M W Lm R many n:Nat) (g:AVal):Prop:=(M ≠ ob∧W ≠ ob∧Lm ≠ ob∧R ≠ ob)∧H[M]?=some ⟨.cells [.int .i64 (many:Int)] 3 false false,0⟩∧H[W]?=some ⟨.cells [g] 212 false false,0⟩∧H[Lm]?=some ⟨.cells [.int .i64 (n:Int)] 3 false false,0⟩∧H[R]?=some ⟨.cells [moreP M ob W Lm R] 111 false false,0⟩
theorem MorePt.keep {H H':Heap} {ob M W Lm R many n:Nat} {g:AVal} (x:MorePt H ob M W Lm R many n g) (k:KeepX ob H H'):MorePt H' ob M W Lm R many n g:=by
 obtain ⟨⟨a,b,c,d⟩,x1,x2,x3,x4⟩:=x
 exact ⟨⟨a,b,c,d⟩,k.2 _ _ a x1,k.2 _ _ b x2,k.2 _ _ c x3,k.2 _ _ d x4⟩
def WishP (h0:Heap) (g:AVal) (n:Nat) (p:List Int→Bool):Prop:=One g∧∀ base H lv l,Ext h0 H→Ints H lv l→(∀ x ∈ l,0≤x∧x<(n:Int))→callL prog raw base g [lv] H=some (.bool (p l),H)
theorem stQ56 {base:Nat} {l:List Oper} {s:St} {Q:AExit→St→Prop}:WP prog raw base (.region 7 l.toArray true) s Q=WPS prog raw base (.region 7 l.toArray true) s Q:=WP_stop
attribute [local go_sem ↓ 3000] stQ56
set_option maxHeartbeats 2000000 in
theorem run_moreP {base ob M W Lm R many n:Nat} {h0:Heap} {g:AVal} {p:List Int→Bool} (hg:WishP h0 g n p) (hb0:base≤ob) (hn:n≤1000) (hmany:many≤1000) :
  ∀ (d:Nat) {l:List Int} {a:Nat} {lv:AVal} {H:Heap} {o:Option (List Int)},l.length+d=many→base≤H.length→ob<H.length→Own encI 3 0 H lv l→Off [ob] lv→(∀ x ∈ l,0≤x∧x<(n:Int))→a≤n→OutI h0 ob o H→MorePt H ob M W Lm R many n g →
  Ret prog raw base (moreP M ob W Lm R) [lv,.int .i64 (a:Int)] H (fun v H'=>v=.bool (visF p (lexC (upto n) d l a) o).1∧KeepX ob H H'∧OutI h0 ob (visF p (lexC (upto n) d l a) o).2 H'):=by
 have hul:=upto_len (n:=n)
 intro d
 induction d with
 | zero =>
  intro l a lv H o hl hb hob hO hof hsub ha hio hM
  obtain ⟨⟨n1,n2,n3,n4⟩,m1,m2,m3,m4⟩:=hM
  have hll:=own_len hO Fc.el35 (by omega)
  have t1:((l.length:Int)=(many:Int))=True:=eq_true (by omega)
  obtain ⟨hh,xh,sv0,go,_,_⟩:=hio
  obtain ⟨H2,eH2⟩:∃ H2:Heap,H2=H.set ob (outB lv):=⟨_,rfl⟩
  have hO2:Own encI 3 0 H2 lv l:=by rw [eH2];exact hO.setOff hof (by simp)
  have x2:Ext h0 H2:=by rw [eH2];exact xh.set hh
  have m22:H2[W]?=some ⟨.cells [g] 212 false false,0⟩:=by rw [eH2,List.getElem?_set_ne (fun e=>n2 e.symm)];exact m2
  have e1:=fun base=>hg.2 base H2 lv l x2 ((hO2.rows (by omega)).ints (fun x hx=>by have:=hsub x hx;omega)) hsub
  have r:visF p (lexC (upto n) 0 l a) o=(p l,some l):=by
   simp only [lexC,visF]
   cases p l<;>rfl
  rw [r]
  have i1:OutI h0 ob (some l) H2:=⟨hh,x2,lv,by rw [eH2,List.getElem?_set_self hob],hO2,hof⟩
  have k1:KeepX ob H H2:=by rw [eH2];exact KeepX.refl.set
  have lone:=hO.one
  have gone:=hg.1
  unfold outB at eH2 go
  refine ret_raw func173 rfl (by kernel_rfl) ?_
  have hsp:=@Nat.succ_ne_zero;repeat' (first|simp (disch:=first|exact dq|fail) only [go_sem,↓reduceIte,hsp,hll,m1,t1,go,← eH2,m22,e1]|refine WP_drw ?_|refine cnd_intro (fun hsp=>?_) fun hsp=>?_)
  exact ⟨k1,i1⟩
 | succ d ih =>
  intro l a lv H o hl hb hob hO hof hsub ha hio hM
  have hM0:=hM
  obtain ⟨⟨n1,n2,n3,n4⟩,m1,m2,m3,m4⟩:=hM
  have hll:=own_len hO Fc.el35 (by omega)
  have t1:((l.length:Int)=(many:Int))=False:=eq_false (by omega)
  refine ret_raw func173 rfl (by kernel_rfl) ?_
  have hsp:=@Nat.succ_ne_zero;repeat' (first|simp (disch:=first|exact dq|fail) only [go_sem,↓reduceIte,hsp,hll,m1,t1]|refine WP_drw ?_|refine cnd_intro (fun hsp=>?_) fun hsp=>?_)
  refine WP_count [(9,34)] 0 (n-a) (Nat.zero_le _) (fun _ j fr h'=>fr 10=.int .i64 ((a+j:Nat):Int)∧KeepX ob H h'∧(visF p (lexP (upto n) d l a j) o).1=false∧OutI h0 ob (visF p (lexP (upto n) d l a j) o).2 h') ?_ ?_ ?_
  ·exact ⟨by (simp (disch:=first|exact dq|fail) only [go_sem,↓reduceIte,Int.natCast_zero];first|done|rfl),.refl,rfl,hio⟩
  ·rintro j fr H1 hj0 hj hA ⟨r10,xK,hv,hi1⟩
   have p0:=hA 0 rfl
   have p5:=hA 5 rfl
   have p6:=hA 6 rfl
   try simp (disch:=first|exact dq|fail) only [go_sem,↓reduceIte] at p0 p5 p6
   have hM1:=hM0.keep xK
   obtain ⟨_,q1,q2,q3,q4⟩:=hM1
   have hlk:=xK.1
   have hO1:=xK.own hO hof
   have hlt:(((a+j:Nat):Int)<(n:Int))=True:=eq_true (by omega)
   have hsp:=@Nat.succ_ne_zero;repeat' (first|simp (disch:=first|exact dq|fail) only [go_sem,↓reduceIte,hsp,r10,p0,p5,p6,q3,hlt]|refine WP_drw ?_|refine cnd_intro (fun hsp=>?_) fun hsp=>?_)
   refine WPS_go ?_
   have hsmall:Small l:=⟨by omega,fun y hy=>by have:=hsub y hy;omega⟩
   obtain ⟨cv,H2,e2,x2,o2⟩:=run_cloneI (base:=base) hO1 hsmall
   have hl2:=x2.len
   obtain ⟨v',H3,ea,oV,hle,hE,hV1⟩:=o2.append1 (y:=((a+j:Nat):Int)) (base:=base) (t:=35) rfl rfl Fc.el35 encI_sc (by omega) hl2 (by omega)
   have x3:Ext H1 H3:=hE H1 (Nat.le_refl _) x2
   have hl3:=x3.len
   have k3:KeepX ob H1 H3:=.ofExt x3
   have hs2:∀ y ∈ l++[((a+j:Nat):Int)],0≤y∧y<(n:Int):=fun y hy=>by
    rcases List.mem_append.1 hy with q|q
    ·exact hsub y q
    ·simp only [List.mem_singleton] at q;omega
   obtain ⟨rv,H4,e4,rfl,k4,i4⟩:=ih (l:=l++[((a+j:Nat):Int)]) (a:=a+j+1) (lv:=v') (H:=H3) (o:=(visF p (lexP (upto n) d l a j) o).2) (by simp;omega) (by omega) (by omega) (oV.low (Nat.zero_le _)) (oV.off (fun i hi=>by simp at hi;omega)) hs2 (by omega) (hi1.ext x3) ((hM0.keep xK).keep k3)
   have hjj:(((a+j:Nat):Int)+1)=((a+j+1:Nat):Int):=by omega
   have g42:=x2.get q4
   have g43:=x3.get q4
   have hlow1:refsLow H1.length (moreP M ob W Lm R):=by
    have a1:=lt_of_get q1
    have a2:=lt_of_get q2
    have a3:=lt_of_get q3
    have a4:=lt_of_get q4
    simp [refsLow,moreP,AVal.refs,refsL,a1,a2,a3,a4]
    omega
   have hsp:=visF_app (p:=p) (a:=lexP (upto n) d l a j) (b:=lexC (upto n) d (l++[((a+j:Nat):Int)]) (a+j+1)) (o:=o)
   have hps:=lexP_succ (of:=upto n) (l:=l) (d:=d) (a:=a) (j:=j)
   rw [upto_getD (by omega)] at hps
   rw [← hps,if_neg (by simp [hv])] at hsp
   rw [← hsp] at e4 i4
   obtain ⟨res,eres⟩:∃ res,res=visF p (lexP (upto n) d l a (j+1)) o:=⟨_,rfl⟩
   rw [← eres] at e4 i4 ⊢
   refine WP_wild [⟨0,111,6,⟨R,0,0⟩,moreP M ob W Lm R,8⟩] (by kernel_rfl) (by kernel_rfl) (by kernel_rfl) ⟨hlow1,trivial⟩ fun K hK=>?_
   iterate 9
    rw [TRS_cons]
    refine ⟨by first|(simp (disch:=first|exact dq|fail) only [go_sem,↓reduceIte,r10,p0,p5,p6,q4,g42,g43,e2,ea,hjj,e4,ldsQ_cons,ldsQ_nil,grdQ_cons,grdQ_nil,if_true,Nat.reduceLeDiff];done)|exact trivial,?_⟩
    simp (disch:=first|exact dq|fail) only [go_sem,↓reduceIte,r10,p0,p5,p6,q4,g42,g43,e2,ea,hjj,e4]
   rw [TRS_nil]
   refine ⟨by first|(simp (disch:=first|exact dq|fail) only [go_sem,↓reduceIte,r10,p0,p5,p6,q4,g42,g43,e2,ea,hjj,e4,ldsQ_cons,ldsQ_nil,grdQ_cons,grdQ_nil,if_true,Nat.reduceLeDiff];done)|exact trivial,?_⟩
   subst hK
   have hkf:KeepX ob H H4:=(xK.trans k3).trans k4
   cases hres:res.1 with
   | true =>
    have hwh:visF p (lexC (upto n) (d+1) l a) o=res:=by
     obtain ⟨s,e⟩:=lexP_pre (of:=upto n) (l:=l) (d:=d) (a:=a) (j:=j+1) (n-a-(j+1))
     rw [show j+1+(n-a-(j+1))=n-a by omega] at e
     have e3:lexC (upto n) (d+1) l a=lexP (upto n) d l a (n-a):=by rw [lexC,hul];rfl
     rw [e3,e,visF_app,if_pos (by rw [← eres];exact hres),eres]
    have hsp:=@Nat.succ_ne_zero;repeat' (first|simp (disch:=first|exact dq|fail) only [go_sem,↓reduceIte,hsp,p0,p5,p6,hres]|refine WP_drw ?_|refine cnd_intro (fun hsp=>?_) fun hsp=>?_)
    rw [hwh]
    exact ⟨by rw [hres],hkf,i4⟩
   | false =>
    have hsp:=@Nat.succ_ne_zero;repeat' (first|simp (disch:=first|exact dq|fail) only [go_sem,↓reduceIte,hsp,r10,p0,p5,p6,hres]|refine WP_drw ?_|refine cnd_intro (fun hsp=>?_) fun hsp=>?_)
    exact ⟨agq,by first|rfl|omega,hkf,i4⟩
  ·rintro fr H1 hA ⟨r10,xK,hv,hi1⟩
   have p0:=hA 0 rfl
   have p5:=hA 5 rfl
   have p6:=hA 6 rfl
   try simp (disch:=first|exact dq|fail) only [go_sem,↓reduceIte] at p0 p5 p6
   have hM1:=hM0.keep xK
   obtain ⟨_,q1,q2,q3,q4⟩:=hM1
   have hlt:(((a+(n-a):Nat):Int)<(n:Int))=False:=eq_false (by omega)
   have e3:lexC (upto n) (d+1) l a=lexP (upto n) d l a (n-a):=by rw [lexC,hul];rfl
   rw [e3]
   have hsp:=@Nat.succ_ne_zero;repeat' (first|simp (disch:=first|exact dq|fail) only [go_sem,↓reduceIte,hsp,r10,p0,p5,p6,q3,hlt]|refine WP_drw ?_|refine cnd_intro (fun hsp=>?_) fun hsp=>?_)
   refine ⟨?_,xK,hi1⟩
   show _=AVal.bool (visF p (lexP (upto n) d l a (n-a)) o).1
   rw [hv]
end F4
end Go.AM
namespace Go.AM
namespace F4
open Go.Proofs.Tryz
attribute [-go_sem] put_ne put_same
attribute [local go_sem ↓] put_if
def fstQ (n j:Nat):List (List Int):=(List.range j).flatMap fun m=>lexC (upto n) m [] 0
theorem fstQ_succ {n j:Nat}:fstQ n (j+1)=fstQ n j++lexC (upto n) j [] 0:=by simp [fstQ,List.range_succ]
theorem fstQ_pre {n j:Nat}:∀ k,∃ s,fstQ n (j+k)=fstQ n j++s
 | 0=>⟨[],by simp⟩
 | k+1=>by
  obtain ⟨s,e⟩:=fstQ_pre (n:=n) (j:=j) k
  exact ⟨s++lexC (upto n) (j+k) [] 0,by rw [show j+(k+1)=(j+k)+1 by omega,fstQ_succ,e,List.append_assoc]⟩
theorem WishP.ext {h h0:Heap} {g:AVal} {n:Nat} {p:List Int→Bool} (x:WishP h g n p) (e:Ext h h0):WishP h0 g n p:=⟨x.1,fun base H lv l y=>x.2 base H lv l (e.trans y)⟩
set_option maxHeartbeats 1000000 in
theorem run_first {base n:Nat} {h:Heap} {g:AVal} {p:List Int→Bool} (hb:base≤h.length) (hg:WishP h g n p) (hn:n≤100):Ret prog raw base (.fn 84 [] []) [.int .i64 (n:Int),.agg [g]] h (fun w H=>Ext h H∧∃ x,w=.tuple [x,.bool (fstP n p).1]∧Own encI 3 0 H x ((fstP n p).2.getD [])):=by
 have og:=hg.1
 obtain ⟨h0,eh0⟩:∃ h0:Heap,h0=h++[⟨.cells [.int .i64 (n:Int)] 3 false false,0⟩]++[⟨.cells [g] 212 false false,0⟩]:=⟨_,rfl⟩
 have x0:Ext h h0:=by rw [eh0];exact .app (.app .refl)
 have l0:h0.length=h.length+2:=by rw [eh0];simp
 have m1:h0[h.length]?=some ⟨.cells [.int .i64 (n:Int)] 3 false false,0⟩:=by rw [eh0];exact get_app (get_eq rfl)
 have m2:h0[h.length+1]?=some ⟨.cells [g] 212 false false,0⟩:=by rw [eh0];exact get_eq (by simp)
 obtain ⟨G,eG⟩:∃ G,G=h0++[outB (.slice none 0 0)]:=⟨_,rfl⟩
 have xG:Ext h0 G:=by rw [eG];exact .app .refl
 have hI0:OutI h0 (h.length+2) none G:=⟨by omega,xG,.slice none 0 0,by rw [eG];exact get_eq (by omega),Own.nil,fun r n c q=>by cases q⟩
 have mG:=xG.get m1
 unfold outB at eG
 refine ret_raw func84 rfl (by kernel_rfl) ?_
 have hsp:=@Nat.succ_ne_zero;repeat' (first|simp (disch:=first|exact dq|fail) only [go_sem,↓reduceIte,hsp,← eh0,← eG,l0,mG]|refine WP_drw ?_|refine cnd_intro (fun hsp=>?_) fun hsp=>?_)
 refine WP_count [(7,9),(12,19)] 0 (n+1) (Nat.zero_le _) (fun _ j fr h'=>fr 12=.int .i64 (j:Int)∧fr 7=.bool false∧OutI h0 (h.length+2) (visF p (fstQ n j) none).2 h'∧(visF p (fstQ n j) none).1=false) ?_ ?_ ?_
 ·exact ⟨by (simp (disch:=first|exact dq|fail) only [go_sem,↓reduceIte,Int.natCast_zero];first|done|rfl),by simp (disch:=first|exact dq|fail) only [go_sem,↓reduceIte],hI0,rfl⟩
 ·rintro j fr H hj0 hj hA ⟨r12,r7,hI,hv⟩
  have q2:=hA 2 rfl
  have q3:=hA 3 rfl
  have q4:=hA 4 rfl
  have q5:=hA 5 rfl
  have q6:=hA 6 rfl
  have q11:=hA 11 rfl
  try simp (disch:=first|exact dq|fail) only [go_sem,↓reduceIte] at q2 q3 q4 q5 q6 q11
  have hlt:((j:Int)<((n:Int)+1))=True:=eq_true (by omega)
  obtain ⟨hh,xH,sv0,go,_,_⟩:=id hI
  have lH:=lt_of_get go
  obtain ⟨H2,eH2⟩:∃ H2:Heap,H2=H++[⟨.cells [.int .i64 (j:Int)] 3 false false,0⟩]++[⟨.cells [moreP H.length (h.length+2) (h.length+1) h.length (H.length+1)] 111 false false,0⟩]:=⟨_,rfl⟩
  have x2:Ext H H2:=by rw [eH2];exact .app (.app .refl)
  have l2:=x2.len
  have hM:MorePt H2 (h.length+2) H.length (h.length+1) h.length (H.length+1) j n g :=
   ⟨⟨by omega,by omega,by omega,by omega⟩,by rw [eH2];exact get_app (get_eq rfl),x2.get (xH.get m2),x2.get (xH.get m1),by rw [eH2];exact get_eq (by simp)⟩
  obtain ⟨v1,H3,e1,rfl,k1,i1⟩:=run_moreP (base:=base) (hg.ext x0) (by omega) (by omega) (by omega) j (l:=[]) (a:=0) (lv:=.slice none 0 0) (H:=H2) (o:=(visF p (fstQ n j) none).2) (by simp) (by omega) (by omega) Own.nil (fun r n c q=>by cases q) (fun x hx=>by cases hx) (Nat.zero_le _) (hI.ext x2) hM
  have hsp:=visF_app (p:=p) (a:=fstQ n j) (b:=lexC (upto n) j [] 0) (o:=none)
  rw [← fstQ_succ,if_neg (by simp [hv])] at hsp
  rw [← hsp] at e1 i1
  obtain ⟨res,eres⟩:∃ res,res=visF p (fstQ n (j+1)) none:=⟨_,rfl⟩
  rw [← eres] at e1 i1 ⊢
  rw [Int.natCast_zero] at e1
  obtain ⟨_,xH3,sv3,go3,ho3,_⟩:=id i1
  have gR:=hM.2.2.2.2
  unfold moreP at e1 eH2 gR
  unfold outB at go3
  cases hres:res.1 with
  | true =>
   have hwh:fstP n p=res:=by
    obtain ⟨s,e⟩:=fstQ_pre (n:=n) (j:=j+1) (n-j)
    rw [show j+1+(n-j)=n+1 by omega] at e
    show visF p (fstQ n (n+1)) none=res
    rw [e,visF_app,if_pos (by rw [← eres];exact hres),eres]
   rw [hres] at e1
   have hsp:=@Nat.succ_ne_zero;repeat' (first|simp (disch:=first|exact dq|fail) only [go_sem,↓reduceIte,hsp,r12,r7,q2,q3,q4,q5,q6,q11,hlt,← eH2,gR,e1,go3]|refine WP_drw ?_|refine cnd_intro (fun hsp=>?_) fun hsp=>?_)
   exact ⟨x0.trans xH3,sv3,by rw [hwh,hres],by rw [hwh];exact ho3⟩
  | false =>
   rw [hres] at e1
   have hsp:=@Nat.succ_ne_zero;repeat' (first|simp (disch:=first|exact dq|fail) only [go_sem,↓reduceIte,hsp,r12,r7,q2,q3,q4,q5,q6,q11,hlt,← eH2,gR,e1]|refine WP_drw ?_|refine cnd_intro (fun hsp=>?_) fun hsp=>?_)
   exact ⟨agq,by omega,i1⟩
 ·rintro fr H hA ⟨r12,r7,hI,hv⟩
  have q2:=hA 2 rfl
  have q3:=hA 3 rfl
  have q4:=hA 4 rfl
  have q5:=hA 5 rfl
  have q6:=hA 6 rfl
  have q11:=hA 11 rfl
  try simp (disch:=first|exact dq|fail) only [go_sem,↓reduceIte] at q2 q3 q4 q5 q6 q11
  have hlt:(((n+1:Nat):Int)<((n:Int)+1))=False:=eq_false (by omega)
  obtain ⟨hh,xH,sv0,go,ho,_⟩:=id hI
  unfold outB at go
  have hsp:=@Nat.succ_ne_zero;repeat' (first|simp (disch:=first|exact dq|fail) only [go_sem,↓reduceIte,hsp,r12,r7,q2,q3,q4,q5,q6,q11,hlt,go]|refine WP_drw ?_|refine cnd_intro (fun hsp=>?_) fun hsp=>?_)
  have hwh:fstP n p=visF p (fstQ n (n+1)) none:=rfl
  exact ⟨x0.trans xH,sv0,by rw [hwh,hv],by rw [hwh];exact ho⟩
def sgB (v:AVal):ABlk:=⟨.cells [v] 105 false false,0⟩
theorem run_slp1 {base db sb d:Nat} {h:Heap} {P:Pwr} {S l:List Int} {sv lv:AVal} (g1:h[db]?=some (dpB d)) (g2:h[sb]?=some (sgB sv)) (hD:DkAt h d P) (hS:Rows encI h sv S) (hk:S.length≤6) (hI:Ints h lv l) (hl:∀ x ∈ l,0≤x∧x<9) :
  callL prog raw base (.fn 85 [] [.ptr (some ⟨db,0,0⟩),.ptr (some ⟨sb,0,0⟩)]) [lv] h=some (.bool (xplB P S l),h):=by
 have e1:=fun base=>run_xpl (base:=base) hD hS hk hI hl
 have l1:=lt_of_get g1
 have l2:=lt_of_get g2
 have lo:=hI.one
 unfold dpB at g1
 unfold sgB at g2
 refine callL_run func85 rfl rfl ?_
 have hsp:=@Nat.succ_ne_zero;repeat' (first|simp (disch:=first|exact dq|fail) only [go_sem,↓reduceIte,hsp,g1,g2,e1]|refine WP_drw ?_|refine cnd_intro (fun hsp=>?_) fun hsp=>?_)
 exact fB rfl
theorem run_Slipped {base:Nat} {h:Heap} {v sv:AVal} {P:Pwr} {S:List Int} (hb:base≤h.length) (hM:PwAt h v P) (hO:MOkS P S) (hS:Rows encI h sv S):Ret prog raw base (.fn 31 [] []) [v,sv] h (fun w H=>Ext h H∧∃ x,w=.tuple [x,.int .i64 (slpM P S).2]∧Own encI 3 0 H x (slpM P S).1):=by
 have ok:=hO.ok
 have hM0:=hM
 obtain ⟨pv,wv,rfl,hP,hW⟩:=hM
 have os:=hP.one
 have ow:=hW.one
 have oS:=hS.one
 have b1:=ok.n
 have b2:=ok.k
 have b3:=hO.len
 obtain ⟨G,eG⟩:∃ G,G=h++[pwB pv wv]++[sgB sv]:=⟨_,rfl⟩
 have x0:Ext h G:=by rw [eG];exact .app (.app .refl)
 have g0:G[h.length]?=some (pwB pv wv):=by rw [eG];exact get_app (get_eq rfl)
 have g01:G[h.length+1]?=some (sgB sv):=by rw [eG];exact get_eq (by simp)
 have lG:=x0.len
 obtain ⟨w,H1,e1,d,rfl,hd,x1,hD⟩:=run_sighted (base:=base) (h:=G) (by omega) (hM0.ext x0) hO (hS.ext x0)
 have xh:=x0.trans x1
 have lH1:=xh.len
 have g1:=x1.get g0
 have g11:=x1.get g01
 obtain ⟨H2,eH2⟩:∃ H2,H2=H1++[dpB d]:=⟨_,rfl⟩
 have x2:Ext H1 H2:=by rw [eH2];exact .app .refl
 have gd:H2[H1.length]?=some (dpB d):=by rw [eH2];exact get_eq rfl
 have hW2:WishP H2 (.fn 85 [] [.ptr (some ⟨H1.length,0,0⟩),.ptr (some ⟨h.length+1,0,0⟩)]) P.U.length (xplB P S) :=
  ⟨⟨rfl,rfl,rfl⟩,fun base H lv l e hI hl=>run_slp1 (e.get gd) ((x2.trans e).get g11) (hD.ext (x2.trans e)) (hS.ext (xh.trans (x2.trans e))) (by omega) hI (fun x hx=>by have:=hl x hx;omega)⟩
 obtain ⟨w2,H3,e2,x3,y,rfl,oy⟩:=run_first (base:=base) (by have:=x2.len;omega) hW2 (by omega)
 have n1:=(hP.ext (xh.trans x2)).len
 have g2:=x2.get g1
 have y1:=oy.one
 unfold pwB sgB at eG
 unfold pwB at g0 g1 g2
 unfold sgB at g01 g11
 unfold dpB at eH2
 cases c:(fstP P.U.length (xplB P S)).1 with
 | true =>
  have r:slpM P S=((fstP P.U.length (xplB P S)).2.getD [],0):=by unfold slpM;rw [if_pos c]
  rw [r]
  rw [c] at e2
  refine ret_raw func31 rfl (by kernel_rfl) ?_
  have hsp:=@Nat.succ_ne_zero;repeat' (first|simp (disch:=first|exact dq|fail) only [go_sem,↓reduceIte,hsp,← eG,g0,g01,e1,← eH2,g2,n1,e2]|refine WP_drw ?_|refine cnd_intro (fun hsp=>?_) fun hsp=>?_)
  exact ⟨(xh.trans x2).trans x3,y,rfl,oy⟩
 | false =>
  have r:slpM P S=([],7):=by unfold slpM;rw [if_neg (by rw [c];simp)]
  rw [r]
  rw [c] at e2
  refine ret_raw func31 rfl (by kernel_rfl) ?_
  have hsp:=@Nat.succ_ne_zero;repeat' (first|simp (disch:=first|exact dq|fail) only [go_sem,↓reduceIte,hsp,← eG,g0,g01,e1,← eH2,g2,n1,e2]|refine WP_drw ?_|refine cnd_intro (fun hsp=>?_) fun hsp=>?_)
  exact ⟨(xh.trans x2).trans x3,_,rfl,Own.nil⟩
end F4
end Go.AM
namespace Go.AM
namespace F4
open Go.Proofs.Tryz
theorem splice_keep:∀ (z:List Int) (m:List Int) (o:Nat),∃ m',splice (ints m) o (ints z)=ints m'∧m'.length=m.length∧m'.take o=m.take o
 | [],m,o=>⟨m,rfl,rfl,rfl⟩
 | x :: z,m,o=>by
  obtain ⟨m',h1,h2,h3⟩:=splice_keep z (m.set o x) (o+1)
  refine ⟨m',?_,by rw [h2,List.length_set],?_⟩
  ·show splice ((ints m).set o (.int .i64 x)) (o+1) (ints z)=ints m'
   rw [ints_set];exact h1
  ·have:=congrArg (List.take o) h3
   rw [List.take_take,List.take_take,Nat.min_eq_left (Nat.le_succ o),List.take_set_of_le (Nat.le_refl o)] at this
   exact this
theorem clr_keep {base id u o n k:Nat} {H:Heap} {m:List Int} (hg:H[id]?=some (rowB m u)) (hn:0<n) (ho:o+n≤m.length):∃ m':List Int,m'.length=m.length∧m'.take o=m.take o∧clearA prog base H 35 (.slice (some ⟨id,u,o⟩) n k)=some (.tuple [],H.set id (rowB m' u)):=by
 have hrep:∀ j,repCells [AVal.int .i64 0] j=ints (lst (fun _=>0) j):=fun j=>by
  induction j with
  | zero=>rfl
  | succ j ih =>
   rw [repCells,ih]
   simp [ints,lst,List.range_succ_eq_map,List.map_map]
 obtain ⟨m',h1,h2,h3⟩:=splice_keep (lst (fun _=>0) n) m o
 refine ⟨m',h2,h3,?_⟩
 cases n with
 | zero=>omega
 | succ n =>
  simp only [clearA,Fc.el35,hrep,store_eq,hg,rowB,stQ]
  rw [if_pos ⟨trivial,by rw [ints_length,ints_length,lst_len];exact ho,ints_scalar _,.inr (ints_bare _)⟩,h1]
def cmpS (l:List Int) (n:Nat):List Int:=selN (fun i=>decide (i=0 ∨ l.getD i 0 ≠ l.getD (i-1) 0)) (fun i=>l.getD i 0) n
theorem cmpS_eq {l:List Int} {i:Nat} (h0:0<i) (h:l.getD i 0=l.getD (i-1) 0):cmpS l (i+1)=cmpS l i:=by
 unfold cmpS
 rw [selN,if_neg (by rw [decide_eq_true_eq];omega),List.append_nil]
theorem cmpS_ne {l:List Int} {i:Nat} (h:i=0 ∨ l.getD i 0 ≠ l.getD (i-1) 0):cmpS l (i+1)=cmpS l i++[l.getD i 0]:=by
 unfold cmpS
 rw [selN,if_pos (decide_eq_true h)]
theorem cmpS_take {l:List Int}:∀ {i:Nat},i≤l.length→(∀ j,j<i→0<j→l.getD j 0 ≠ l.getD (j-1) 0)→cmpS l i=l.take i
 | 0,_,_=>rfl
 | i+1,h,hp=>by
  have ih:=cmpS_take (l:=l) (i:=i) (by omega) fun j h1 h2=>hp j (by omega) h2
  have hi:i=0 ∨ l.getD i 0 ≠ l.getD (i-1) 0:=by
   by_cases e:i=0
   ·exact .inl e
   ·exact .inr (hp i (by omega) (by omega))
  rw [cmpS_ne hi,ih,List.take_add_one,List.getElem?_eq_getElem (show i<l.length by omega),List.getD_eq_getElem?_getD,List.getElem?_eq_getElem (show i<l.length by omega)]
  rfl
theorem take_set {m:List Int} {k:Nat} {x:Int} (h:k<m.length):(m.set k x).take (k+1)=m.take k++[x]:=by
 rw [List.take_add_one,List.take_set_of_le (Nat.le_refl k),List.getElem?_set_self h]
 rfl
theorem run_compactD {base id u:Nat} {h:Heap} {l:List Int} (hg:h[id]?=some (rowB l u)) (hs:Small l) (h2:2≤l.length) :
  Ret prog raw base (.fn 93 [] []) [.slice (some ⟨id,u,0⟩) l.length l.length] h (fun v H=>∃ (k:Nat) (m:List Int),v=.slice (some ⟨id,u,0⟩) k l.length∧H=h.set id (rowB m u)∧m.length=l.length∧k≤l.length∧m.take k=cmpF l):=by
 have hid:=lt_of_get hg
 have hl:l.length<1073741824:=hs.1
 have hself:h=h.set id (rowB l u):=(set_id hg).symm
 refine ret_raw func93 rfl (by kernel_rfl) ?_
 have t1:((l.length:Int)<2)=False:=eq_false (by omega)
 have hsp:=@Nat.succ_ne_zero;repeat' (first|simp (disch:=first|exact dq|fail) only [go_sem,hsp,t1,Fc.ln35]|refine WP_drw ?_|refine cnd_intro (fun hsp=>?_) fun hsp=>?_)
 refine WP_loop (fun σ=>∃ i:Nat,σ.fr 3=.int .i64 (i:Int)∧σ.fr 0=.slice (some ⟨id,u,0⟩) l.length l.length∧σ.h=h∧i≤l.length∧(1≤i∧∀ j,j<i→0<j→l.getD j 0 ≠ l.getD (j-1) 0)) (fun σ=>match σ.fr 3 with|.int _ x=>(((l.length:Nat):Int)-x).toNat|_=>0) ?_ ?_
 ·refine ⟨1,?_,?_,?_,by omega,?_⟩
  iterate 3 focus (first|rfl|(simp (disch:=first|exact dq|fail) only [go_sem,Int.natCast_zero];first|done|rfl))
  exact ⟨Nat.le_refl _,fun j h1 h2=>by omega⟩
 ·rintro ⟨fr,hp⟩ ⟨i,r3,r0,rh,hi,hP⟩
  dsimp only at r3 r0 rh hi hP
  subst rh
  obtain ⟨hi1,hP⟩:=hP
  by_cases hn:i<l.length
  ·have hlt:((i:Int)<(l.length:Int))=True:=eq_true (by omega)
   have e1:((i:Int)-1).toNat=i-1:=by omega
   by_cases he:l.getD i 0=l.getD (i-1) 0
   ·have t2:(l.getD i 0=l.getD (i-1) 0)=True:=eq_true he
    have hsp:=@Nat.succ_ne_zero;repeat' (first|simp (disch:=first|exact dq|fail) only [go_sem,hsp,r3,r0,hlt,t2,e1,hg,sl_from,Fc.ln35,Fc.as35]|refine WP_drw ?_|refine cnd_intro (fun hsp=>?_) fun hsp=>?_)
    refine WP_loop (fun σ=>∃ (k2 k:Nat) (m:List Int),σ.fr 5=.int .i64 (k2:Int)∧σ.fr 3=.int .i64 (k:Int)∧σ.fr 0=.slice (some ⟨id,u,0⟩) l.length l.length∧σ.fr 4=.slice (some ⟨id,u,i⟩) (l.length-i) (l.length-i)∧σ.h=hp.set id (rowB m u)∧m.length=l.length∧(1≤k2∧k2≤l.length-i)∧(i≤k∧k+1≤i+k2)∧m.take k=cmpS l (i+k2)∧∀ j,i+k2≤j+1→m.getD j 0=l.getD j 0) (fun σ=>match σ.fr 5 with|.int _ x=>(((l.length-i:Nat):Int)-x).toNat|_=>0) ?_ ?_
    ·refine ⟨1,i,l,?_,?_,?_,?_,hself,rfl,by omega,by omega,?_,fun j _=>rfl⟩
     ·simp (disch:=first|exact dq|fail) only [go_sem]
     ·simp (disch:=first|exact dq|fail) only [go_sem,r3,r0]
     ·simp (disch:=first|exact dq|fail) only [go_sem,r3,r0]
     ·simp (disch:=first|exact dq|fail) only [go_sem,r3,r0]
     ·rw [cmpS_eq (by omega) he,cmpS_take (by omega) hP]
    ·rintro ⟨fr2,hp2⟩ ⟨k2,k,m,q5,q3,q0,q4,rh2,hm,hk2,hk,hT,hR⟩
     dsimp only at q5 q3 q0 q4 rh2
     subst rh2
     have hgm:(hp.set id (rowB m u))[id]?=some (rowB m u):=by rw [List.getElem?_set_self hid]
     by_cases hn2:k2<l.length-i
     ·have hlt2:((k2:Int)<((l.length-i:Nat):Int))=True:=eq_true (by omega)
      have e2:((k2:Int)-1).toNat=k2-1:=by omega
      have r1:=hR (i+k2) (by omega)
      have r2:=hR (i+(k2-1)) (by omega)
      by_cases he2:m.getD (i+k2) 0=m.getD (i+(k2-1)) 0
      ·have t3:(m.getD (i+k2) 0=m.getD (i+(k2-1)) 0)=True:=eq_true he2
       have hc:cmpS l (i+k2+1)=cmpS l (i+k2):=cmpS_eq (by omega) (by rw [show i+k2-1=i+(k2-1) by omega,← r1,← r2];exact he2)
       have hsp:=@Nat.succ_ne_zero;repeat' (first|simp (disch:=first|exact dq|fail) only [go_sem,hsp,q5,q3,q0,q4,hlt2,t3,e2,hgm,hid,Fc.ln35,Fc.as35]|refine WP_drw ?_|refine cnd_intro (fun hsp=>?_) fun hsp=>?_)
       exact ⟨⟨k2+1,k,m,by simp,rfl,rfl,hm,by omega,by omega,by rw [hT,← hc];rfl,fun j hj=>hR j (by omega)⟩,by omega⟩
      ·have t3:(m.getD (i+k2) 0=m.getD (i+(k2-1)) 0)=False:=eq_false he2
       have hc:cmpS l (i+k2+1)=cmpS l (i+k2)++[l.getD (i+k2) 0]:=cmpS_ne (.inr (by rw [show i+k2-1=i+(k2-1) by omega,← r1,← r2];exact he2))
       have hsp:=@Nat.succ_ne_zero;repeat' (first|simp (disch:=first|exact dq|fail) only [go_sem,hsp,q5,q3,q0,q4,hlt2,t3,e2,hgm,hid,Fc.ln35,Fc.as35]|refine WP_drw ?_|refine cnd_intro (fun hsp=>?_) fun hsp=>?_)
       refine ⟨⟨k2+1,k+1,m.set k (m.getD (i+k2) 0),by simp,by simp,by first|rfl|exact List.set_set ..,by rw [List.length_set];exact hm,by omega,by omega,?_,fun j hj=>?_⟩,by omega⟩
       ·rw [take_set (by omega),hT,r1,← hc];rfl
       ·rw [← hR j (by omega),List.getD_eq_getElem?_getD,List.getElem?_set_ne (by omega),← List.getD_eq_getElem?_getD]
     ·have hlt2:((k2:Int)<((l.length-i:Nat):Int))=False:=eq_false (by omega)
      obtain ⟨m',hm',hkp,hcl⟩:=clr_keep (base:=base) (o:=k) (n:=l.length-k) (k:=l.length-k) hgm (by omega) (by omega)
      have hsp:=@Nat.succ_ne_zero;repeat' (first|simp (disch:=first|exact dq|fail) only [go_sem,hsp,q5,q3,q0,q4,hlt2,sl_from,sl_to,hcl,Fc.ln35]|refine WP_drw ?_|refine cnd_intro (fun hsp=>?_) fun hsp=>?_)
      refine ⟨k,m',rfl,by first|rfl|exact List.set_set ..,by rw [hm',hm],by omega,?_⟩
      rw [hkp,hT,show i+k2=l.length by omega]
      rfl
   ·have t2:(l.getD i 0=l.getD (i-1) 0)=False:=eq_false he
    have hsp:=@Nat.succ_ne_zero;repeat' (first|simp (disch:=first|exact dq|fail) only [go_sem,hsp,r3,r0,hlt,t2,e1,hg,Fc.ln35,Fc.as35]|refine WP_drw ?_|refine cnd_intro (fun hsp=>?_) fun hsp=>?_)
    refine ⟨⟨i+1,by simp,by omega,by omega,fun j h1 h2=>?_⟩,by omega⟩
    by_cases e:j=i
    ·subst e;exact he
    ·exact hP j (by omega) h2
  ·have hlt:((i:Int)<(l.length:Int))=False:=eq_false (by omega)
   have hsp:=@Nat.succ_ne_zero;repeat' (first|simp (disch:=first|exact dq|fail) only [go_sem,hsp,r3,r0,hlt,Fc.ln35]|refine WP_drw ?_|refine cnd_intro (fun hsp=>?_) fun hsp=>?_)
   refine ⟨l.length,l,rfl,hself,rfl,Nat.le_refl _,?_⟩
   rw [← cmpS_take (Nat.le_refl _) fun j h1 h2=>hP j (by omega) h2]
   rfl
theorem run_compactO {base b:Nat} {h0 h:Heap} {v:AVal} {l:List Int} (hO:Own encI 3 b h v l) (hs:Small l) (x0:Ext h0 h) (hb:h0.length≤b) :
  Ret prog raw base (.fn 93 [] []) [v] h (fun w H=>Ext h0 H∧Ints H w (cmpF l)):=by
 have hI:Ints h v l:=(hO.rows (by have:=hs.1;omega)).ints fun x hx=>hs.2 x hx
 by_cases h2:l.length<2
 ·obtain ⟨w,H,e,rfl,rfl⟩:=run_compact0 (base:=base) hI h2
  refine ⟨w,H,e,x0,?_⟩
  have:cmpF l=l:=by
   show cmpS l l.length=l
   rw [cmpS_take (Nat.le_refl _) fun j h1 h3=>by omega,List.take_length]
  rw [this]
  exact hI
 ·rcases hO with ⟨_,ho⟩|⟨id,u,rfl,o1,o2,o3⟩
  ·rw [ho] at h2;simp at h2
  ·have o1':h[id]?=some (rowB l u):=by rw [o1,rowE,flat_encI];rfl
   obtain ⟨w,H,e,k,m,rfl,rfl,hm,hk,hc⟩:=run_compactD (base:=base) o1' hs (by omega)
   refine ⟨_,_,e,x0.set (by omega),?_⟩
   have hlc:(cmpF l).length=k:=by rw [← hc,List.length_take];omega
   refine ⟨⟨by have:=hs.1;omega,fun x hx=>hs.2 x (cmpF_mem.1 hx)⟩,.inr (.inr ⟨⟨id,u,0⟩,l.length,ints m,3,true,false,by rw [hlc],?_,?_,by rw [ints_length,hlc,hm];simpa using hk,by omega⟩)⟩
   ·rw [List.getElem?_set_self (lt_of_get o1')];rfl
   ·rw [hlc,← hc]
    simp [ints,List.map_take]
end F4
end Go.AM
namespace Go.AM
namespace F4
open Go.Proofs.Tryz
attribute [-go_sem] put_ne put_same
attribute [local go_sem ↓] put_if
def opnJ (P:Pwr) (S:List Int) (k j:Nat):List Int:=((lnK P k).take j).filter fun s=>!clrB P S s
theorem opnJ_succ {P:Pwr} {S:List Int} {k j:Nat} {c:Int} (hj:j<(lnK P k).length) (e:(lnK P k).getD j (-1)=c):opnJ P S k (j+1)=opnJ P S k j++(if clrB P S c=true then [] else [c]):=by
 unfold opnJ
 have et:(lnK P k).take (j+1)=(lnK P k).take j++[c]:=by
  rw [List.take_add_one,List.getElem?_eq_getElem hj,← e,List.getD_eq_getElem?_getD,List.getElem?_eq_getElem hj]
  rfl
 rw [et,List.filter_append]
 congr 1
 simp only [List.filter_cons,List.filter_nil]
 cases clrB P S c<;>rfl
theorem opnJ_len {P:Pwr} {S:List Int} {k j:Nat}:(opnJ P S k j).length≤(lnK P k).length:=by
 unfold opnJ
 have a:=(List.filter_sublist (p:=fun s=>!clrB P S s) (l:=(lnK P k).take j)).length_le
 rw [List.length_take] at a
 omega
set_option maxHeartbeats 2000000 in
theorem run_open {base d:Nat} {h:Heap} {sv:AVal} {P:Pwr} {S:List Int} {k:Nat} (hb:base≤h.length) (hD:DkAt h d P) (ok:POk P) (hS:Rows encI h sv S) (hk6:S.length≤6) (hk:k<P.K.length) :
  Ret prog raw base (.fn 91 [] []) [.ptr (some ⟨d,0,0⟩),sv,.int .i64 (k:Int)] h (fun w H=>Ext h H∧Own encI 3 h.length H w (opnL P S k)):=by
 have oS:=hS.one
 have b1:=ok.n
 obtain ⟨G,eG⟩:∃ G,G=h++[dpB d]++[sgB sv]:=⟨_,rfl⟩
 have xG:Ext h G:=by rw [eG];exact .app (.app .refl)
 have lG:G.length=h.length+2:=by rw [eG];simp
 have gG1:G[h.length]?=some (dpB d):=by rw [eG];exact get_app (get_eq rfl)
 have gG2:G[h.length+1]?=some (sgB sv):=by rw [eG];exact get_eq (by simp)
 obtain ⟨G2,eG2⟩:∃ G2,G2=G++[outB (.slice none 0 0)]:=⟨_,rfl⟩
 have xG2:Ext G G2:=by rw [eG2];exact .app .refl
 have lG2:G2.length=h.length+3:=by rw [eG2];simp;omega
 have gO:G2[h.length+2]?=some (outB (.slice none 0 0)):=by rw [eG2];exact get_eq (by omega)
 obtain ⟨pv,wv,m,hd,hP,hW,hm⟩:=id (hD.ext (xG.trans xG2))
 obtain ⟨s,es⟩:∃ s,P.K[k]?=some s:=⟨_,List.getElem?_eq_getElem hk⟩
 have hs:=ok.s s (List.mem_of_getElem? es)
 have elk:lnK P k=lnA P.U s:=by unfold lnK;rw [List.getD_eq_getElem?_getD,es];rfl
 obtain ⟨a1,a2,a3,_⟩:=hW.sh es
 have op:=hP.one
 have ow:=hW.one
 have ll:=lnA_len ok.u (show -1≤s by omega) hs.2
 obtain ⟨lv,H2,e2,rfl,eH2⟩:=run_line (base:=base) (h:=G2) (s:=s) op ow
 have x2:Ext G2 H2:=by rw [eH2];exact .app (.app .refl)
 have l2:H2.length=h.length+5:=by rw [eH2];simp;omega
 have gd1:=xG2.get gG1
 have gd2:=xG2.get gG2
 unfold dpB sgB at eG
 unfold outB at eG2
 unfold dkB at hd
 unfold dpB at gd1
 rw [lG2] at e2
 refine ret_raw func91 rfl (by kernel_rfl) ?_
 have hsp:=@Nat.succ_ne_zero;repeat' (first|simp (disch:=first|exact dq|fail) only [go_sem,↓reduceIte,hsp,← eG,← eG2,lG,gd1,hd,a1,a2,a3,e2]|refine WP_drw ?_|refine cnd_intro (fun hsp=>?_) fun hsp=>?_)
 refine WP_rest fun F J eF eJ=>?_
 have kF3:=congrFun eF 3
 have kF4:=congrFun eF 4
 have kF7:=congrFun eF 7
 have kF22:=congrFun eF 22
 try simp (disch:=first|exact dq|fail) only [go_sem,↓reduceIte] at kF3 kF4 kF7 kF22
 have lJ:=congrArg List.length eJ
 try simp (disch:=first|exact dq|fail) only [go_sem,↓reduceIte] at lJ
 rw [eJ]
 have hbk:∀ j X,AsI G (h.length+3) (h.length+2) (h.length+6) pv wv (opnJ P S k j) X→X[h.length+3]?=some (pwB pv wv)∧ShAt X pv P.U:=by
  rintro j X ⟨_,e,mm,_⟩
  obtain ⟨pv',wv',m',hd',hP',hW',_⟩:=hD.ext (xG.trans e)
  have q:=hD
  obtain ⟨pv0,wv0,m0,hd0,hP0,_⟩:=q
  have q1:=(xG.trans xG2).get hd0
  unfold dkB at q1
  rw [hd] at q1
  simp only [Option.some.injEq,ABlk.mk.injEq,ABody.cells.injEq,List.cons.injEq] at q1
  rw [← q1.1.1.1] at hP0
  exact ⟨mm,hP0.ext (xG.trans e)⟩
 refine WP_rangeS (f:=170) (a:=[]) (c:=[.ptr (some ⟨h.length+3+1,0,0⟩),.ptr (some ⟨h.length+3,0,0⟩)]) (by rw [ev_tmp,kF22]) (N:=(lnA P.U s).length) (sb:=h.length+3+1) (B0:=intB s) (xs:=fun j=>[.int .i64 ((lnA P.U s).getD j (-1))])
  (fun j X=>AsI G (h.length+3) (h.length+2) (h.length+6) pv wv (opnJ P S k j) X) ?_ (fun j=>rfl) (by omega) (by rw [eH2];exact get_eq (by simp;omega)) (fun j X T x=>x.app) (fun j X b x=>x.set ⟨by omega,by omega⟩ (by omega) (by omega)) (fun j X b x=>x.set ⟨by omega,by omega⟩ (by omega) (by omega)) ?_ ?_ ?_
 ·exact line_yields ok.u (by omega) (by omega) (by omega) hbk
 ·refine ⟨⟨by omega,by omega,by omega,by simp;omega⟩,(xG2.trans x2).app,get_app ?_,.slice none 0 0,get_app (x2.get gO),?_⟩
  ·rw [eH2];exact get_app (get_eq lG2.symm)
  ·show Own encI 3 _ _ _ (opnJ P S k 0)
   unfold opnJ
   rw [List.take_zero]
   exact Own.nil
 ·rintro j X B1 B2 hj hC hlen hB1
  obtain ⟨c,ec⟩:∃ c,c=(lnA P.U s).getD j (-1):=⟨_,rfl⟩
  have hc:=lnA_at ok.u (by omega) hs.2 hj
  rw [← ec] at hc ⊢
  have hst:=opnJ_succ (S:=S) (show j<(lnK P k).length by rw [elk];exact hj) (show (lnK P k).getD j (-1)=c by rw [elk];exact ec.symm)
  obtain ⟨n,rfl⟩:=Int.eq_ofNat_of_zero_le hc.1
  have hsp:=@Nat.succ_ne_zero;repeat' (first|simp (disch:=first|exact dq|fail) only [go_sem,↓reduceIte,hsp,kF3,kF4,kF7,kF22]|refine WP_drw ?_|refine cnd_intro (fun hsp=>?_) fun hsp=>?_)
  refine ⟨hB1,?_⟩
  obtain ⟨X2,eX⟩:∃ X2,X2=X.set H2.length B2:=⟨_,rfl⟩
  rw [← eX]
  have hlX:=lt_of_get hB1
  have hC2:AsI G (h.length+3) (h.length+2) (h.length+6) pv wv (opnJ P S k j) X2:=by rw [eX];exact hC.set ⟨by omega,by omega⟩ (by omega) (by omega)
  have hb2:X2[H2.length]?=some B2:=by rw [eX,List.getElem?_set_self hlX]
  have hs2:∀ x,X[h.length+3+1]?=some x→X2[h.length+3+1]?=some x:=fun x hx=>by rw [eX,List.getElem?_set_ne (by omega)];exact hx
  obtain ⟨⟨a1',a2',a3',a4'⟩,xX,m2,v,go,hO⟩:=id hC2
  have gX1:X[h.length]?=some (dpB d):=hC.2.1.get gG1
  have gY1:X2[h.length]?=some (dpB d):=xX.get gG1
  have gY2:X2[h.length+1]?=some (sgB sv):=xX.get gG2
  have e5:=fun base=>run_cleared (base:=base) (s:=n) (hD.ext (xG.trans xX)) (hS.ext (xG.trans xX)) hk6 (by omega)
  have hlen2:=opnJ_len (P:=P) (S:=S) (k:=k) (j:=j)
  rw [elk] at hlen2
  unfold dpB at gX1 gY1
  unfold sgB at gY2
  cases c2:clrB P S (n:Int) with
  | true =>
   rw [c2] at e5
   rw [if_pos c2,List.append_nil] at hst
   have hsp:=@Nat.succ_ne_zero;repeat' (first|simp (disch:=first|exact dq|fail) only [go_sem,↓reduceIte,hsp,kF3,kF4,kF7,kF22,gX1,gY1,gY2,e5]|refine WP_drw ?_|refine cnd_intro (fun hsp=>?_) fun hsp=>?_)
   exact ⟨hb2,hs2,by rw [hst];exact hC2⟩
  | false =>
   rw [c2] at e5
   rw [if_neg (by rw [c2];simp)] at hst
   obtain ⟨v',X3,ea,oV,hle,hE,hV1⟩:=hO.append1 (y:=(n:Int)) (base:=base) (t:=35) rfl rfl Fc.el35 encI_sc (by omega) a4' (by omega)
   have go3:=keep_low hE (by omega) go
   unfold outB at go go3
   have hsp:=@Nat.succ_ne_zero;repeat' (first|simp (disch:=first|exact dq|fail) only [go_sem,↓reduceIte,hsp,kF3,kF4,kF7,kF22,gX1,gY1,gY2,e5,go,ea,go3]|refine WP_drw ?_|refine cnd_intro (fun hsp=>?_) fun hsp=>?_)
   refine ⟨keep_low hE (by omega) hb2,fun x hx=>keep_low hE (by omega) (hs2 x hx),⟨a1',a2',a3',by rw [List.length_set];omega⟩,(hE G (by omega) xX).set a1',?_,v',?_,?_⟩
   ·rw [List.getElem?_set_ne (by omega)];exact keep_low hE (by omega) m2
   ·rw [List.getElem?_set_self (lt_of_get go3)];rfl
   ·rw [hst];exact oV.set a2'
 ·rintro X hC
  obtain ⟨_,xX,_,v,go,hO⟩:=hC
  have ef:opnJ P S k (lnA P.U s).length=opnL P S k:=by unfold opnJ opnL;rw [← elk,List.take_length]
  rw [ef] at hO
  unfold outB at go
  have o1:=hO.one
  have hsp:=@Nat.succ_ne_zero;repeat' (first|simp (disch:=first|exact dq|fail) only [go_sem,↓reduceIte,hsp,kF3,kF4,kF7,kF22,go]|refine WP_drw ?_|refine cnd_intro (fun hsp=>?_) fun hsp=>?_)
  exact ⟨xG.trans xX,hO.low (by omega)⟩
set_option maxHeartbeats 1000000 in
theorem run_pclash {base d:Nat} {h:Heap} {sv:AVal} {P:Pwr} {S:List Int} (hb:base≤h.length) (hD:DkAt h d P) (hM:MOkS P S) (hS:Rows encI h sv S) :
  callL prog raw base (.fn 90 [] []) [.ptr (some ⟨d,0,0⟩),sv] h=some (.bool (clsB P S),h):=by
 have oS:=hS.one
 have ok:=hM.ok
 have b2:=ok.k
 have b3:=hM.len
 refine callL_run func90 rfl rfl ?_
 have hsp:=@Nat.succ_ne_zero;repeat' (first|simp (disch:=first|exact dq|fail) only [go_sem,↓reduceIte,hsp,sgt_len hS]|refine WP_drw ?_|refine cnd_intro (fun hsp=>?_) fun hsp=>?_)
 refine WP_count [(4,6),(9,24)] 0 S.length (Nat.zero_le _) (fun _ n fr h'=>fr 9=.int .i64 (n:Int)∧Ext h h'∧∀ k,k<n→¬ (S.getD k 0=2∧opnL P S k=[])) ?_ ?_ ?_
 ·exact ⟨by (simp (disch:=first|exact dq|fail) only [go_sem,↓reduceIte,Int.natCast_zero];first|done|rfl),.refl,fun k hk=>by omega⟩
 ·rintro n fr H hn0 hn hA ⟨r9,xH,hP⟩
  have p0:=hA 0 rfl
  have p1:=hA 1 rfl
  have p7:=hA 7 rfl
  have p8:=hA 8 rfl
  try simp (disch:=first|exact dq|fail) only [go_sem,↓reduceIte] at p0 p1 p7 p8
  have hlt:((n:Int)<(S.length:Int))=True:=eq_true (by omega)
  obtain ⟨a1,a2⟩:=sgt_at (hS.ext xH) hn
  have lH:=xH.len
  by_cases c1:S.getD n 0=2
  ·have t1:(S.getD n 0=2)=True:=eq_true c1
   obtain ⟨w,H2,e1,x2,o2⟩:=run_open (base:=h.length) (k:=n) lH (hD.ext xH) ok (hS.ext xH) (by omega) (by omega)
   have hll:=own_len o2 Fc.el35 (by
    have q:=(List.filter_sublist (p:=fun s=>!clrB P S s) (l:=lnK P n)).length_le
    have q2:(lnK P n).length≤P.U.length:=by
     unfold lnK
     have hm:=ok.s _ (getD_at (d:=(-1:Int)) (show n<P.K.length by omega) ▸ List.getElem_mem (show n<P.K.length by omega))
     exact lnA_len ok.u (by omega) hm.2
    have q3:=ok.n
    unfold opnL
    omega)
   by_cases c2:opnL P S n=[]
   ·have t2:(((opnL P S n).length:Int)=0)=True:=eq_true (by rw [c2];rfl)
    rw [clsB_iff.2 ⟨n,hn,c1,c2⟩]
    have hsp:=@Nat.succ_ne_zero;repeat' (first|simp (disch:=first|exact dq|fail) only [go_sem,↓reduceIte,hsp,r9,p0,p1,p7,p8,hlt,a1,a2,t1,e1,hll,t2]|refine WP_drw ?_|refine cnd_intro (fun hsp=>?_) fun hsp=>?_)
    exact fB rfl (xH.trans x2)
   ·have t2:(((opnL P S n).length:Int)=0)=False:=eq_false (fun q=>c2 (List.eq_nil_of_length_eq_zero (by omega)))
    have hsp:=@Nat.succ_ne_zero;repeat' (first|simp (disch:=first|exact dq|fail) only [go_sem,↓reduceIte,hsp,r9,p0,p1,p7,p8,hlt,a1,a2,t1,e1,hll,t2]|refine WP_drw ?_|refine cnd_intro (fun hsp=>?_) fun hsp=>?_)
    refine ⟨agq,by omega,xH.trans x2,fun k hk=>?_⟩
    by_cases e:k=n
    ·rw [e];exact fun q=>c2 q.2
    ·exact hP k (by omega)
  ·have t1:(S.getD n 0=2)=False:=eq_false c1
   have hsp:=@Nat.succ_ne_zero;repeat' (first|simp (disch:=first|exact dq|fail) only [go_sem,↓reduceIte,hsp,r9,p0,p1,p7,p8,hlt,a1,a2,t1]|refine WP_drw ?_|refine cnd_intro (fun hsp=>?_) fun hsp=>?_)
   refine ⟨agq,by omega,xH,fun k hk=>?_⟩
   by_cases e:k=n
   ·rw [e];exact fun q=>c1 q.1
   ·exact hP k (by omega)
 ·rintro fr H hA ⟨r9,xH,hP⟩
  have p0:=hA 0 rfl
  have p1:=hA 1 rfl
  have p7:=hA 7 rfl
  have p8:=hA 8 rfl
  try simp (disch:=first|exact dq|fail) only [go_sem,↓reduceIte] at p0 p1 p7 p8
  have hlt:((S.length:Int)<(S.length:Int))=False:=eq_false (by omega)
  have r:clsB P S=false:=by
   cases c:clsB P S with
   | false=>rfl
   | true =>
    obtain ⟨k,k1,k2⟩:=clsB_iff.1 c
    exact absurd k2 (hP k k1)
  rw [r]
  have hsp:=@Nat.succ_ne_zero;repeat' (first|simp (disch:=first|exact dq|fail) only [go_sem,↓reduceIte,hsp,r9,p0,p1,p7,p8,hlt]|refine WP_drw ?_|refine cnd_intro (fun hsp=>?_) fun hsp=>?_)
  exact fB rfl xH
end F4
end Go.AM
namespace Go.AM
structure Bij (n:Int) (p q:Int→Int):Prop where
 to:∀ i,0≤i∧i<n→(0≤p i∧p i<n)∧q (p i)=i
 fro:∀ i,0≤i∧i<n→(0≤q i∧q i<n)∧p (q i)=i
theorem Bij.symm {n:Int} {p q:Int→Int} (x:Bij n p q):Bij n q p:=⟨x.fro,x.to⟩
theorem Bij.inj {n:Int} {p q:Int→Int} (x:Bij n p q) {i k:Int} (hi:0≤i∧i<n) (hk:0≤k∧k<n) (e:p i=p k):i=k:=by
 rw [← (x.to i hi).2,e,(x.to k hk).2]
end Go.AM
namespace Go.AM
def lexB:List Int→List Int→Bool
 | x :: a,y :: b=>if x=y then lexB a b else decide (x<y)
 | _,_=>false
theorem lexB_irr:∀ a:List Int,lexB a a=false
 | []=>rfl
 | x :: a=>by simp only [lexB,if_true];exact lexB_irr a
theorem lexB_trans:∀ {a b c:List Int},lexB a b=true→lexB b c=true→lexB a c=true
 | [],_,_,h,_=>by simp [lexB] at h
 | _ :: _,[],_,h,_=>by simp [lexB] at h
 | _ :: _,_ :: _,[],_,h=>by simp [lexB] at h
 | x :: a,y :: b,z :: c,h,k=>by
  simp only [lexB] at h k ⊢
  by_cases e1:x=y
  ·rw [if_pos e1] at h
   by_cases e2:y=z
   ·rw [if_pos e2] at k;rw [if_pos (by omega)];exact lexB_trans h k
   ·rw [if_neg e2] at k;rw [if_neg (by omega)];simp only [decide_eq_true_eq] at k ⊢;omega
  ·rw [if_neg e1] at h
   by_cases e2:y=z
   ·rw [if_neg (by omega)];simp only [decide_eq_true_eq] at h ⊢;omega
   ·rw [if_neg e2] at k;simp only [decide_eq_true_eq] at h k;rw [if_neg (by omega)];simp only [decide_eq_true_eq];omega
theorem lexB_app:∀ (l:List Int) {a b:List Int},lexB (l++a) (l++b)=lexB a b
 | [],_,_=>rfl
 | x :: l,a,b=>by simp only [List.cons_append,lexB,if_true];exact lexB_app l
end Go.AM
namespace Go.AM
namespace L3
abbrev Rw3:=Int × Int × Int
structure Lac where
 T:Int
 C:List Int
 R:List Rw3
def setB (T x:Int):Bool:=decide (0≤x∧x≤2 ^ T.toNat-1)
def subB (a b:Int):Bool:=decide (a.toNat &&& b.toNat=a.toNat)
def twB (l:List Int):Bool:=decide (¬ l.Nodup)
def chkL (L:Lac):Int :=
 if ¬ (1≤L.T∧L.T≤8) then 3 else
 if ¬ (1≤(L.C.length:Int)∧(L.C.length:Int)≤7) ∨ (L.R.length:Int) > 12 then 2 else
 if ¬ (L.C.all (setB L.T))=true ∨ ¬ (L.R.all fun r=>decide (0≤r.1∧r.1≤999) && setB L.T r.2.1)=true then 3 else
 if ¬ (L.R.all fun r=>setB L.T r.2.2 && subB r.2.2 r.2.1)=true then 8 else
 if twB L.C=true then 5 else 0
structure LacOk (L:Lac):Prop where
 T:1≤L.T∧L.T≤8
 n:1≤L.C.length∧L.C.length≤7
 m:L.R.length≤12
 c:∀ x ∈ L.C,0≤x∧x≤2 ^ L.T.toNat-1
 r:∀ r ∈ L.R,(0≤r.1∧r.1≤999)∧(0≤r.2.1∧r.2.1≤2 ^ L.T.toNat-1)∧(0≤r.2.2∧r.2.2≤2 ^ L.T.toNat-1)∧r.2.2.toNat &&& r.2.1.toNat=r.2.2.toNat
 d:L.C.Nodup
def fitB (L:Lac) (p k:Nat):Bool:=L.R.all fun r=>decide (r.1.toNat % L.C.length=p→(L.C.getD k 0).toNat &&& r.2.1.toNat=r.2.2.toNat)
def ordsF (fit:Nat→Nat→Bool) (n:Nat):Nat→List Int→List (List Int)
 | 0,l=>[l]
 | d+1,l=>(upto n).flatMap fun k=>if (fit l.length k.toNat && decide (k ∉ l))=true then ordsF fit n d (l++[k]) else []
def Ord (n:Nat) (l:List Int):Prop:=l.length=n∧(∀ x ∈ l,0≤x∧x<(n:Int))∧l.Nodup
def fnd (L:Lac):List (List Int):=ordsF (fitB L) L.C.length L.C.length []
def Xpl (L:Lac) (o:List Int):Prop:=∀ i,i<o.length→fitB L i (o.getD i 0).toNat=true
end L3
end Go.AM
namespace Go.AM
namespace L3
open Go.Proofs.Tryz
def encR:Enc Rw3:=⟨3,fun r=>[.int .i64 r.1,.int .i64 r.2.1,.int .i64 r.2.2],fun _=>rfl,by decide⟩
def encM:Enc (Int × Int):=⟨2,fun m=>[.int .i64 m.1,.int .i64 m.2],fun _=>rfl,by decide⟩
def LacAt (h:Heap) (v:AVal) (L:Lac):Prop:=∃ cv rv,v=.agg [.int .i64 L.T,cv,rv]∧Ints h cv L.C∧Rows encR h rv L.R
section
variable {b:Nat} {H H':Heap} {v:AVal} {ts:List (List Int)}
def encZ:Enc AVal:=⟨1,fun v=>[norm v],fun _=>rfl,by decide⟩
def AllI (b:Nat) (H:Heap) (v:AVal) (ts:List (List Int)):Prop:=∃ vs:List AVal,Own encZ 35 b H v vs∧vs.length=ts.length∧∀ (i:Nat) x t,vs[i]?=some x→ts[i]?=some t→OwnE encI 3 0 H x t
theorem AllI.one (x:AllI b H v ts):One v:=by obtain ⟨vs,h1,_⟩:=x;exact h1.one
theorem AllI.low {b':Nat} (x:AllI b H v ts) (hb:b'≤b):AllI b' H v ts:=by
 obtain ⟨vs,h1,h2,h3⟩:=x
 exact ⟨vs,h1.low hb,h2,h3⟩
theorem AllI.rows (x:AllI b H v ts) (hl:ts.length<2 ^ 60):∃ vs,Rows encZ H v vs∧vs.length=ts.length:=by
 obtain ⟨vs,h1,h2,_⟩:=x
 exact ⟨vs,h1.rows (by omega),h2⟩
theorem AllI.len (x:AllI b H v ts) (hl:ts.length<2 ^ 60):lenOpA prog H 31 v=some (.int .i64 (ts.length:Int)):=by
 obtain ⟨vs,h1,h2,_⟩:=x
 have:=(h1.rows (by omega)).len (P:=prog) Fc.el31
 rwa [h2] at this
theorem AllI.at (x:AllI b H v ts) (hl:ts.length<2 ^ 60) {i:Nat} {t:List Int} (ht:ts[i]?=some t) :
  ∃ a w,indexAddrA prog 31 v (.int .i64 (i:Int))=some a∧(∀ K,Ext H K→loadP prog K 35 a=some w)∧OwnE encI 3 0 H w t:=by
 obtain ⟨vs,h1,h2,h3⟩:=x
 have hi:i<ts.length:=(List.getElem?_eq_some_iff.1 ht).1
 have hx:vs[i]?=some vs[i]:=List.getElem?_eq_getElem (by omega)
 have hR:=h1.rows (show vs.length<2 ^ 60 by omega)
 have ad:=hR.addr (P:=prog) (i:=(i:Int)) Fc.el31 Fc.ar31 (by omega) (by omega)
 rw [Int.toNat_natCast] at ad
 have hw:=h3 i _ _ hx ht
 refine ⟨_,_,ad,fun K e=>?_,hw⟩
 exact (hR.ext e).cell (P:=prog) Fc.ty35 hx (o:=0) (a:=vs[i]) (by simp only [encZ,norm_one hw.one];rfl)
end
end L3
end Go.AM
namespace Go.AM
namespace L3
open Go.Proofs.Tryz
attribute [-go_sem] put_ne put_same
attribute [local go_sem ↓] put_if
def KeepP (A:Nat) (pr:ABlk→Prop) (H H':Heap):Prop:=H.length≤H'.length∧∀ i x,A≤i→pr x→H[i]?=some x→H'[i]?=some x
section
variable {A:Nat} {pr:ABlk→Prop} {H H' H2:Heap}
theorem KeepP.refl:KeepP A pr H H:=⟨Nat.le_refl _,fun _ _ _ _ h=>h⟩
end
end L3
end Go.AM
namespace Go.AM
namespace L3
def stp (o1 o2:List Int) (p:Nat):Nat:=o2.idxOf (o1.getD p 0)
def itr (o1 o2:List Int) (a:Nat):Nat→Nat
 | 0=>a
 | i+1=>stp o1 o2 (itr o1 o2 a i)
def rngL (o1 o2:List Int) (a r:Nat):List Int:=lst (fun i=>(itr o1 o2 a i:Int)) r
section
variable {n:Nat} {o1 o2:List Int} (h1:Ord n o1) (h2:Ord n o2)
include h1 h2
end
def trnS (o ring:List Int) (out:List Int) (i:Nat):List Int:=out.set (ring.getD ((i+1) % ring.length) 0).toNat (o.getD (ring.getD i 0).toNat 0)
def trnN (o ring:List Int):Nat→List Int
 | 0=>o
 | i+1=>trnS o ring (trnN o ring i) i
def trnL (o ring:List Int):List Int:=trnN o ring ring.length
section
variable {n:Nat} {o1 o2:List Int} (h1:Ord n o1) (h2:Ord n o2) {a r:Nat} (ha:a<n) (hr:0<r) (hb:itr o1 o2 a r=a) (hm:∀ i,0<i→i<r→itr o1 o2 a i ≠ a)
include h1 h2 ha hr hb hm
end
end L3
end Go.AM
namespace Go.AM
namespace L3
def bstI (o out:List Int) (p:Nat):Nat→Int
 | 0=>0
 | j+1=>if o.getD (p+1+j) 0 > o.getD p 0 then max (bstI o out p j) (out.getD (p+1+j) 0) else bstI o out p j
def rsN (o:List Int):Nat→List Int
 | 0=>List.replicate o.length 0
 | k+1=>(rsN o k).set (o.length-1-k) (bstI o (rsN o k) (o.length-1-k) k+1)
def rsA (o:List Int):List Int:=rsN o o.length
structure RsV (o:List Int) (V:Nat→Int):Prop where
 pos:∀ p,p<o.length→1≤V p
 dn:∀ p q,p<q→q<o.length→o.getD p 0<o.getD q 0→V q+1≤V p
 is:∀ p,p<o.length→V p=1 ∨ ∃ q,p<q∧q<o.length∧o.getD p 0<o.getD q 0∧V p=V q+1
def rsR (o:List Int) (p q:Int):Prop:=p<q∧o.getD p.toNat 0<o.getD q.toNat 0
def RiseP (o l:List Int):Prop:=l.Pairwise (rsR o)∧∀ p ∈ l,0≤p∧p<(o.length:Int)
section
variable {o:List Int} {V:Nat→Int} (hV:RsV o V)
include hV
end
def nxtB (o:List Int) (V:Nat→Int) (out:List Int) (left:Int) (p:Int):Bool :=
 decide (V p.toNat=left) && (match out.getLast? with|none=>true|some a=>decide (a<p∧o.getD a.toNat 0<o.getD p.toNat 0))
def riseS (o:List Int) (V:Nat→Int) (out:List Int) (left:Int):List Int :=
 match (upto o.length).find? (nxtB o V out left) with|some p=>out++[p]|none=>out
def riseF (o:List Int) (V:Nat→Int):Nat→List Int→List Int
 | 0,out=>out
 | m+1,out=>riseF o V m (riseS o V out (m+1:Nat))
section
variable {o:List Int} {V:Nat→Int} (hV:RsV o V)
include hV
end
def IsRise (o x:List Int):Prop:=RiseP o x∧∀ y,RiseP o y→y.length<x.length ∨ (y.length=x.length∧(y=x ∨ lexB x y=true))
def grt (l:List Int):Int:=l.foldl max 0
def riseL (o:List Int):List Int:=riseF o (fun p=>(rsA o).getD p 0) (grt (rsA o)).toNat []
end L3
end Go.AM
namespace Go.AM
namespace L3
open Go.Proofs.Tryz
attribute [-go_sem] put_ne put_same
attribute [local go_sem ↓] put_if
abbrev evB (g:AVal):ABlk:=⟨.cells [g] 132 false false,0⟩
def ordL (l:List Int) (n:Int):Int:=if (l.length:Int) ≠ n then 2 else if ¬ (l.all fun k=>decide (0≤k∧k≤n-1))=true then 1 else if twB l=true then 5 else 0
abbrev nB (n:Int):ABlk:=⟨.cells [.int .i64 n] 3 false false,0⟩
def aloL (l:List Int):Int:=if ¬ (1≤(l.length:Int)∧(l.length:Int)≤7) then 2 else ordL l l.length
end L3
end Go.AM
namespace Go.AM
open Go.Proofs.Tryz
attribute [-go_sem] put_ne put_same
attribute [local go_sem ↓] put_if
end Go.AM
