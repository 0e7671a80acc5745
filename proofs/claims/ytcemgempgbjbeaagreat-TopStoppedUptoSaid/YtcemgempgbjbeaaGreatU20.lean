/-
  Contracts: as many sights as can be of which any two are apart (Packed, the walk).
-/
import Derived.Test.YtcemgempgbjbeaaGreatU19
import Derived.Test.YtcemgempgbjbeaaGreatU11
set_option linter.unusedSimpArgs false
set_option linter.unusedVariables false
namespace Go.AM
namespace F4
open Go.Proofs.Tryz
attribute [-go_sem] put_ne put_same
attribute [local go_sem ↓] put_if
theorem rows_lowid2 {α:Type} {E:Enc α} {h:Heap} {v:AVal} {l:List α} (hR:Rows E h v l):∀ r n c,v=.slice (some r) n c→r.id<h.length:=by
 intro r n c e
 rcases hR.2 with ⟨rfl,_⟩|⟨rfl,_⟩|⟨r',k,c',e',row,ro,rfl,h2,_⟩
 ·cases e
 ·cases e
 ·cases e;exact lt_of_get h2
theorem mat0:repCells [.bool false] 100=(List.replicate 100 false).map AVal.bool:=by kernel_rfl
set_option maxHeartbeats 2000000 in
theorem run_packed {base:Nat} {h:Heap} {v:AVal} {L:Lom} (hb:base≤h.length) (hL:LomAt h v L) (hok:LomOk L) :
  Ret prog raw base (.fn 36 [] []) [v] h (fun w H=>Ext h H∧∃ x,w=.tuple [x,.int .i64 (pckM L).2]∧Own encI 3 0 H x (pckM L).1):=by
 obtain ⟨pv,sv,rfl,hP,hS⟩:=id hL
 have hp1:=hP.one
 have hs1:=hS.one
 obtain ⟨w1,H1,e1,x1,y,rfl,ho,hd⟩:=run_told (base:=base) (h:=h++[⟨.cells [.int .i64 L.R,.int .i64 L.T,pv,sv] 62 false false,0⟩]) (b:=false) (by simp;omega) (hL.ext (.app .refl)) hok
 have xh:=(Ext.app (t:=[⟨.cells [.int .i64 L.R,.int .i64 L.T,pv,sv] 62 false false,0⟩]) (Ext.refl (h:=h))).trans x1
 have g0:H1[h.length]?=some ⟨.cells [.int .i64 L.R,.int .i64 L.T,pv,sv] 62 false false,0⟩:=x1.get (by simp)
 have hH1l:=xh.len
 by_cases c1:tolE L false=0
 ·rw [c1] at e1
  have hD:=hd c1
  have hc:=(tolE_ok c1).1
  have hDL:=deskL_A hc hok
  obtain ⟨k1,k2,k3,k4,k5,k6⟩:=chkM_ok hc
  obtain ⟨did,mid,pv',sv',bv,rfl,g1,g2,g3,g4,g5,g6,g7⟩:=id hD
  rw [deskB] at g1
  have lg1:=lt_of_get g1
  have lg0:=lt_of_get g0
  obtain ⟨bad,ebad⟩:∃ bad,bad=(deskA L).1:=⟨_,rfl⟩
  obtain ⟨ms,ems⟩:∃ ms,ms=(deskA L).2:=⟨_,rfl⟩
  have hnd:bad.Nodup:=by rw [ebad];exact deskA_nodup
  have hbr:∀ x ∈ bad,0≤x∧x<10:=fun x hx=>by have:=hDL.2.2.1 x (by rw [← ebad];exact hx);omega
  rw [← ebad] at g4 hD hDL
  rw [← ems] at hD
  have hbl:=hDL.2.1
  have r:pckM L=(pckF (pckP L) bad (min bad.length L.ps.length) none,0):=by unfold pckM;rw [if_neg (by simp [c1]),ebad]
  rw [r]
  have hlB:∀ {a:ABlk},lenOpA prog (H1++[a]) 35 bv=some (.int .i64 (bad.length:Int)):=fun {a}=>lenI g4.app
  refine ret_raw func36 rfl (by kernel_rfl) ?_
  have hsp:=@Nat.succ_ne_zero;repeat' (first|simp (disch:=first|exact dq|fail) only [go_sem,↓reduceIte,hsp,e1,eq_self,g1,hlB,mat0]|refine WP_drw ?_|refine cnd_intro (fun hsp=>?_) fun hsp=>?_)
  refine WP_count [(7,10),(26,58)] 0 bad.length (Nat.zero_le _) (fun _ i fr h'=>fr 26=.int .i64 (i:Int)∧∃ m,h'=H1++[matB m]∧MatOk L bad ms i 0 m) ?_ ?_ ?_
  ·exact ⟨by (simp (disch:=first|exact dq|fail) only [go_sem,↓reduceIte,Int.natCast_zero];first|done|rfl),List.replicate 100 false,rfl,by simp,fun i' k' _ _ q=>by omega⟩
  ·rintro i fr H hi0 hi hA ⟨r26,m,rfl,hM⟩
   have p1:=hA 1 rfl
   have p2:=hA 2 rfl
   have p3:=hA 3 rfl
   have p4:=hA 4 rfl
   have p6:=hA 6 rfl
   have p24:=hA 24 rfl
   have p25:=hA 25 rfl
   try simp (disch:=first|exact dq|fail) only [go_sem,↓reduceIte] at p1 p2 p3 p4 p6 p24 p25
   have hlt:((i:Int)<(bad.length:Int))=True:=eq_true (by omega)
   have hB1:=g4.app (g:=[matB m])
   have hl0:=loadI hB1 hi
   have ha0:=adrI (i:=(i:Int)) (by omega) hB1 (by omega)
   rw [Int.toNat_natCast] at ha0
   have hsp:=@Nat.succ_ne_zero;repeat' (first|simp (disch:=first|exact dq|fail) only [go_sem,↓reduceIte,hsp,r26,p1,p2,p3,p4,p6,p24,p25,hlt,ha0,hl0,g1,hlB]|refine WP_drw ?_|refine cnd_intro (fun hsp=>?_) fun hsp=>?_)
   refine WP_count [(9,10),(36,57)] 0 bad.length (Nat.zero_le _) (fun _ k fr h'=>fr 36=.int .i64 (k:Int)∧∃ m,h'=H1++[matB m]∧MatOk L bad ms i k m) ?_ ?_ ?_
   ·exact ⟨by (simp (disch:=first|exact dq|fail) only [go_sem,↓reduceIte,Int.natCast_zero];first|done|rfl),m,rfl,hM⟩
   ·rintro k fr2 H2 hk0 hk hA2 ⟨r36,m2,rfl,hM2⟩
    have u1:=hA2 1 rfl
    have u2:=hA2 2 rfl
    have u3:=hA2 3 rfl
    have u4:=hA2 4 rfl
    have u6:=hA2 6 rfl
    have u7:=hA2 7 rfl
    have u8:=hA2 8 rfl
    have u24:=hA2 24 rfl
    have u25:=hA2 25 rfl
    have u26:=hA2 26 rfl
    have u34:=hA2 34 rfl
    have u35:=hA2 35 rfl
    try simp (disch:=first|exact dq|fail) only [go_sem,↓reduceIte,p1,p2,p3,p4,p6,p24,p25] at u1 u2 u3 u4 u6 u7 u8 u24 u25 u26 u34 u35
    have hlt2:((k:Int)<(bad.length:Int))=True:=eq_true (by omega)
    have hB2:=g4.app (g:=[matB m2])
    have hl2:=loadI hB2 hk
    have ha2:=adrI (i:=(k:Int)) (by omega) hB2 (by omega)
    rw [Int.toNat_natCast] at ha2
    have bi:=hbr _ (getD_mem hi)
    have bk:=hbr _ (getD_mem hk)
    obtain ⟨q1,q2⟩:=matA (id:=H1.length) bi bk
    have q3:∀ {Z:ABlk→Heap} {b:Bool},stQ base H1.length (some (matB m2)) 0 ((bad.getD i 0).toNat * 10+(bad.getD k 0).toNat) [.bool b] Z=some (Z (matB (m2.set ((bad.getD i 0).toNat * 10+(bad.getD k 0).toNat) b))):=fun {Z b}=>matS (by omega) hM2.1 (by omega)
    have u26:=hA2 26 rfl;simp (disch:=first|exact dq|fail) only [go_sem,↓reduceIte,r26] at u26
    by_cases cik:i=k
    ·have t1:((i:Int)=(k:Int))=True:=eq_true (by omega)
     have ev:valP L bad ms i k=false:=by unfold valP;rw [decide_eq_false (by simpa using cik)];rfl
     have hN:=hM2.next hnd hbr hi hk
     rw [ev] at hN
     have hsp:=@Nat.succ_ne_zero;repeat' (first|simp (disch:=first|exact dq|fail) only [go_sem,↓reduceIte,hsp,r36,u1,u2,u3,u4,u6,u7,u8,u24,u25,u26,u34,u35,hlt2,ha2,hl2,t1,q1,q2,q3]|refine WP_drw ?_|refine cnd_intro (fun hsp=>?_) fun hsp=>?_)
     exact ⟨agq,by first|rfl|omega,_,rfl,hN⟩
    ·have t1:((i:Int)=(k:Int))=False:=eq_false (by omega)
     have p1:2 ^ i≤2 ^ 10:=Nat.pow_le_pow_right (by decide) (by omega)
     have p2:2 ^ k≤2 ^ 10:=Nat.pow_le_pow_right (by decide) (by omega)
     have s1:=shlN (t:=3) (k:=i) (by omega)
     have s2:=shlN (t:=3) (k:=k) (by omega)
     have s3:=orN (t:=3) (a:=2 ^ i) (b:=2 ^ k) (by omega) (by omega)
     have s4:=fun base=>run_apart (base:=base) (h:=H1++[matB m2]) (two:=2 ^ i ||| 2 ^ k) (hD.ext (.app .refl)) hDL (Nat.or_lt_two_pow (by omega) (by omega))
     have ev:valP L bad ms i k=aprM L bad ms (2 ^ i ||| 2 ^ k):=by unfold valP;rw [decide_eq_true (by simpa using cik)];rfl
     have hN:=hM2.next hnd hbr hi hk
     rw [ev] at hN
     have hsp:=@Nat.succ_ne_zero;repeat' (first|simp (disch:=first|exact dq|fail) only [go_sem,↓reduceIte,hsp,r36,u1,u2,u3,u4,u6,u7,u8,u24,u25,u26,u34,u35,hlt2,ha2,hl2,t1,s1,s2,s3,s4,q1,q2,q3]|refine WP_drw ?_|refine cnd_intro (fun hsp=>?_) fun hsp=>?_)
     exact ⟨agq,by first|rfl|omega,_,rfl,hN⟩
   ·rintro fr2 H2 hA2 ⟨r36,m2,rfl,hM2⟩
    have u1:=hA2 1 rfl
    have u2:=hA2 2 rfl
    have u3:=hA2 3 rfl
    have u4:=hA2 4 rfl
    have u6:=hA2 6 rfl
    have u7:=hA2 7 rfl
    have u8:=hA2 8 rfl
    have u24:=hA2 24 rfl
    have u25:=hA2 25 rfl
    have u26:=hA2 26 rfl
    have u34:=hA2 34 rfl
    have u35:=hA2 35 rfl
    try simp (disch:=first|exact dq|fail) only [go_sem,↓reduceIte,p1,p2,p3,p4,p6,p24,p25] at u1 u2 u3 u4 u6 u7 u8 u24 u25 u26 u34 u35
    have hlt2:((bad.length:Int)<(bad.length:Int))=False:=eq_false (by omega)
    have u26:=hA2 26 rfl;simp (disch:=first|exact dq|fail) only [go_sem,↓reduceIte,r26] at u26
    have hsp:=@Nat.succ_ne_zero;repeat' (first|simp (disch:=first|exact dq|fail) only [go_sem,↓reduceIte,hsp,r36,u1,u2,u3,u4,u6,u7,u8,u24,u25,u26,u34,u35,u26,hlt2]|refine WP_drw ?_|refine cnd_intro (fun hsp=>?_) fun hsp=>?_)
    refine ⟨agq,by first|rfl|omega,m2,rfl,hM2.1,fun i' k' h1 h2 q=>hM2.2 i' k' h1 h2 ?_⟩
    by_cases e:i'=i
    ·exact .inr ⟨e,h2⟩
    ·exact .inl (by omega)
  ·rintro fr H hA ⟨r26,m,rfl,hM⟩
   have p1:=hA 1 rfl
   have p2:=hA 2 rfl
   have p3:=hA 3 rfl
   have p4:=hA 4 rfl
   have p6:=hA 6 rfl
   have p24:=hA 24 rfl
   have p25:=hA 25 rfl
   try simp (disch:=first|exact dq|fail) only [go_sem,↓reduceIte] at p1 p2 p3 p4 p6 p24 p25
   have hlt:((bad.length:Int)<(bad.length:Int))=False:=eq_false (by omega)
   obtain ⟨h0,eh0⟩:∃ h0,h0=H1++[matB m]:=⟨_,rfl⟩
   have hlB2:∀ {a:ABlk},lenOpA prog (H1++[matB m]++[a]) 35 bv=some (.int .i64 (bad.length:Int)):=fun {a}=>lenI g4.app.app
   have hlP2:∀ {a:ABlk},lenOpA prog (H1++[matB m]++[a]) 59 pv=some (.int .i64 (L.ps.length:Int)):=fun {a}=>((hP.ext xh).ext (.app (.app .refl))).len
   have hle:∀ {base:Nat} {a:ABlk},callL prog raw base (.fn 98 [] []) [.int .i64 (bad.length:Int),.slice (some ⟨(H1++[matB m]++[a]).length,0,0⟩) 1 1] (H1++[matB m]++[a]++[rowB [(L.ps.length:Int)] 0])=some (.int .i64 ((min bad.length L.ps.length:Nat):Int),H1++[matB m]++[a]++[rowB [(L.ps.length:Int)] 0]):=fun {base a}=>by
    have q:=run_least (base:=base) (n:=(bad.length:Int)) (slice_row (A:=H1++[matB m]++[a]) (n:=(H1++[matB m]++[a]).length) (k:=1) (l:=[(L.ps.length:Int)]) rfl rfl ⟨by simp,fun x hx=>by simp at hx;omega⟩)
    rw [q]
    simp only [List.foldl_cons,List.foldl_nil]
    rw [show min (bad.length:Int) (L.ps.length:Int)=((min bad.length L.ps.length:Nat):Int) by omega]
   simp only [List.length_append,List.length_cons,List.length_nil,Nat.zero_add] at hle
   have hsp:=@Nat.succ_ne_zero;repeat' (first|simp (disch:=first|exact dq|fail) only [go_sem,↓reduceIte,hsp,r26,p1,p2,p3,p4,p6,p24,p25,hlt,g1,hlB2,g0,hlP2,hle]|refine WP_drw ?_|refine cnd_intro (fun hsp=>?_) fun hsp=>?_)
   obtain ⟨N,eN⟩:∃ N,N=min bad.length L.ps.length:=⟨_,rfl⟩
   rw [← eN]
   have hN:N≤6:=by omega
   have hh0:h0.length=H1.length+1:=by rw [eh0];simp
   have xh0:Ext H1 h0:=by rw [eh0];exact .app .refl
   have gm0:h0[H1.length]?=some (matB m):=by rw [eh0];simp
   refine WP_count [(2,3),(12,80)] 0 N (Nat.zero_le _) (fun _ j fr h'=>fr 12=.int .i64 ((N-j:Nat):Int)∧∃ o,OutI h0 (H1.length+1) o h'∧pckF (pckP L) bad N none=pckF (pckP L) bad (N-j) o) ?_ ?_ ?_
   ·refine ⟨by simp (disch:=first|exact dq|fail) only [go_sem,↓reduceIte,Nat.sub_zero],none,⟨by omega,by rw [eh0];exact .app (.app .refl),.slice none 0 0,?_,Own.nil,fun r n c q=>by cases q⟩,rfl⟩
    exact get_app (get_eq (by simp))
   ·rintro j fr2 H hj0 hj hA2 ⟨r12,o,hOI,hpf⟩
    have u4:=hA2 4 rfl
    have u6:=hA2 6 rfl
    have u11:=hA2 11 rfl
    try simp (disch:=first|exact dq|fail) only [go_sem,↓reduceIte,p4,p6] at u4 u6 u11
    have xH:=hOI.2.1
    have hHl:=xH.len
    have hobl:H1.length+1<H.length:=by obtain ⟨_,_,s',q,_⟩:=hOI;exact lt_of_get q
    have g1':=(xh0.trans xH).get g1
    have gB:=g4.ext (xh0.trans xH)
    have hbk:=back_packed (base:=base) (ob:=H1.length+1) (mid:=H1.length) (many:=N-j) (h0:=h0) (m:=m) (of:=bad) (by omega) (by omega) gm0 hM.1 hbr (by omega)
    have hofo:Off [H1.length+1] bv:=by
     intro r n c q hm
     have:=rows_lowid2 g4.rows r n c q
     simp at hm
     omega
    obtain ⟨v3,H3,e3,rfl,k3,i3⟩:=run_lists (base:=base) (h:=H) (ofv:=bv) (o:=o) (by omega) (by omega) (⟨rfl,rfl,rfl⟩) hbk (fun o H H' e x=>x.ext e) (by omega) hofo (by omega) gB hOI
    have hpc:visF (mtP m) (lexC bad (N-j) [] 0) o=visF (pckP L) (lexC bad (N-j) [] 0) o:=visF_congr fun x hx=>mtP_eq (by rw [← ebad,← ems];exact hM) fun y hy=>by
     rw [← ebad]
     exact (lexC_sub hx y hy).elim (fun z=>by cases z) id
    rw [hpc] at e3 i3
    have t0:(((N-j:Nat):Int) > 0)=True:=eq_true (by omega)
    have hst:pckF (pckP L) bad (N-j) o=if (visF (pckP L) (lexC bad (N-j) [] 0) o).1=true then (visF (pckP L) (lexC bad (N-j) [] 0) o).2.getD [] else pckF (pckP L) bad (N-(j+1)) (visF (pckP L) (lexC bad (N-j) [] 0) o).2:=by
     rw [show N-j=(N-(j+1))+1 by omega,pckF]
    have hjj:(((N-j:Nat):Int)-1)=((N-(j+1):Nat):Int):=by omega
    obtain ⟨res,eres⟩:∃ res,res=visF (pckP L) (lexC bad (N-j) [] 0) o:=⟨_,rfl⟩
    rw [← eres] at e3 i3 hst
    cases hr:res.1 with
    | true =>
     rw [hr,if_pos rfl] at hst
     rw [hr] at e3
     obtain ⟨q1,q2,s',q3,q4,q5⟩:=i3
     rw [outB] at q3
     have hsp:=@Nat.succ_ne_zero;repeat' (first|simp (disch:=first|exact dq|fail) only [go_sem,↓reduceIte,hsp,r12,u4,u6,u11,t0,g1',e3,q3]|refine WP_drw ?_|refine cnd_intro (fun hsp=>?_) fun hsp=>?_)
     first|refine ⟨(xh.trans xh0).trans q2,s',rfl,?_⟩|refine ⟨s',rfl,?_⟩
     rw [hpf,hst]
     exact q4
    | false =>
     rw [hr,if_neg (by simp)] at hst
     rw [hr] at e3
     have hsp:=@Nat.succ_ne_zero;repeat' (first|simp (disch:=first|exact dq|fail) only [go_sem,↓reduceIte,hsp,r12,u4,u6,u11,t0,g1',e3,hjj]|refine WP_drw ?_|refine cnd_intro (fun hsp=>?_) fun hsp=>?_)
     exact ⟨agq,res.2,i3,by rw [hpf,hst]⟩
   ·rintro fr2 H hA2 ⟨r12,o,hOI,hpf⟩
    have u4:=hA2 4 rfl
    have u6:=hA2 6 rfl
    have u11:=hA2 11 rfl
    try simp (disch:=first|exact dq|fail) only [go_sem,↓reduceIte,p4,p6] at u4 u6 u11
    have t0:(((N-N:Nat):Int) > 0)=False:=eq_false (by omega)
    obtain ⟨q1,q2,s',q3,q4,q5⟩:=hOI
    have hsp:=@Nat.succ_ne_zero;repeat' (first|simp (disch:=first|exact dq|fail) only [go_sem,↓reduceIte,hsp,r12,u4,u6,u11,t0]|refine WP_drw ?_|refine cnd_intro (fun hsp=>?_) fun hsp=>?_)
    first|refine ⟨(xh.trans xh0).trans q2,_,rfl,?_⟩|refine ⟨_,rfl,?_⟩
    rw [hpf,Nat.sub_self]
    exact Own.nil
 ·have t1:(tolE L false=0)=False:=eq_false c1
  have r:pckM L=([],tolE L false):=by unfold pckM;rw [if_pos c1]
  rw [r]
  refine ret_raw func36 rfl (by kernel_rfl) ?_
  have hsp:=@Nat.succ_ne_zero;repeat' (first|simp (disch:=first|exact dq|fail) only [go_sem,↓reduceIte,hsp,e1,t1]|refine WP_drw ?_|refine cnd_intro (fun hsp=>?_) fun hsp=>?_)
  exact ⟨xh,_,rfl,Own.nil⟩
end F4
end Go.AM
namespace Go.AM
namespace F4
theorem upto_sorted (n:Nat):(upto n).Pairwise (·<·):=by
 unfold upto
 rw [List.pairwise_iff_getElem]
 intro i j hi hj hij
 have e:∀ k,(hk:k<(lst (fun i:Nat=>(i:Int)) n).length)→(lst (fun i:Nat=>(i:Int)) n)[k]=(k:Int):=fun k hk=>by simp [lst]
 rw [e,e];omega
theorem pigeon {α β:Type} [DecidableEq β] {R:α→β→Prop}:∀ {l:List α} {t:List β},l.Nodup→(∀ a ∈ l,∃ b ∈ t,R a b)→(∀ a ∈ l,∀ c ∈ l,∀ b ∈ t,R a b→R c b→a=c)→l.length≤t.length
 | [],t,_,_,_=>by simp
 | a :: l,t,hn,h1,h2=>by
  obtain ⟨b,hb,hab⟩:=h1 a (by simp)
  rw [List.nodup_cons] at hn
  have:=pigeon (R:=R) (l:=l) (t:=t.erase b) hn.2 (fun c hc=>by
   obtain ⟨d,hd,hcd⟩:=h1 c (List.mem_cons_of_mem _ hc)
   have hne:d ≠ b:=fun e=>by
    subst e
    have:=h2 a (by simp) c (List.mem_cons_of_mem _ hc) d hd hab hcd
    subst this
    exact hn.1 hc
   exact ⟨d,(List.mem_erase_of_ne hne).2 hd,hcd⟩) (fun c hc d hd b' hb'=>h2 c (List.mem_cons_of_mem _ hc) d (List.mem_cons_of_mem _ hd) b' (List.mem_of_mem_erase hb'))
  rw [List.length_erase_of_mem hb] at this
  have hp:0<t.length:=List.length_pos_of_mem hb
  simp only [List.length_cons];omega
theorem deskA_sorted {L:Lom}:(deskA L).1.Pairwise (·<·):=by rw [deskA_bad];exact (upto_sorted _).filter _
end F4
end Go.AM
namespace Go.AM
namespace F4
theorem cons_sub {y:Int} {s:List Int}:∀ {m:List Int},(y :: s).Sublist m ↔ ∃ q,q<m.length∧m.getD q 0=y∧s.Sublist (m.drop (q+1))
 | []=>by simp
 | z :: m=>by
  have ih:=cons_sub (y:=y) (s:=s) (m:=m)
  rw [List.sublist_cons_iff,ih]
  constructor
  ·rintro (⟨q,h1,h2,h3⟩|⟨r,h1,h2⟩)
   ·exact ⟨q+1,by simpa using h1,by simpa using h2,by simpa using h3⟩
   ·simp only [List.cons.injEq] at h1
    obtain ⟨rfl,rfl⟩:=h1
    exact ⟨0,by simp,by simp,by simpa using h2⟩
  ·rintro ⟨q,h1,h2,h3⟩
   cases q with
   | zero=>exact .inr ⟨s,by simp at h2;rw [h2],by simpa using h3⟩
   | succ q=>exact .inl ⟨q,by simpa using h1,by simpa using h2,by simpa using h3⟩
theorem lexC_mem {of:List Int}:∀ {d:Nat} {l:List Int} {a:Nat} {x:List Int},x ∈ lexC of d l a ↔ ∃ s,s.Sublist (of.drop a)∧s.length=d∧x=l++s
 | 0,l,a,x=>by
  rw [lexC,List.mem_singleton]
  constructor
  ·rintro rfl;exact ⟨[],List.nil_sublist _,rfl,by simp⟩
  ·rintro ⟨s,_,h,rfl⟩;rw [List.eq_nil_of_length_eq_zero h];simp
 | d+1,l,a,x=>by
  rw [lexC,List.mem_flatMap]
  constructor
  ·rintro ⟨q,hq,h⟩
   obtain ⟨s,h1,h2,h3⟩:=lexC_mem.1 h
   rw [List.mem_range] at hq
   refine ⟨of.getD (a+q) 0 :: s,cons_sub.2 ⟨q,by rw [List.length_drop];exact hq,?_,?_⟩,by simp [h2],by simp [h3]⟩
   ·rw [List.getD_eq_getElem?_getD,List.getElem?_drop,List.getD_eq_getElem?_getD]
   ·rw [List.drop_drop];rwa [show a+(q+1)=a+q+1 by omega]
  ·rintro ⟨s,h1,h2,rfl⟩
   cases s with
   | nil=>simp at h2
   | cons y s =>
    obtain ⟨q,q1,q2,q3⟩:=cons_sub.1 h1
    rw [List.length_drop] at q1
    rw [List.getD_eq_getElem?_getD,List.getElem?_drop,← List.getD_eq_getElem?_getD] at q2
    rw [List.drop_drop,show a+(q+1)=a+q+1 by omega] at q3
    refine ⟨q,List.mem_range.2 q1,lexC_mem.2 ⟨s,q3,by simpa using h2,by rw [q2];simp⟩⟩
theorem lexC_all {of x:List Int} {d:Nat}:x ∈ lexC of d [] 0 ↔ x.Sublist of∧x.length=d:=by
 rw [lexC_mem]
 simp only [List.drop_zero,List.nil_append]
 constructor
 ·rintro ⟨s,h1,h2,rfl⟩;exact ⟨h1,h2⟩
 ·rintro ⟨h1,h2⟩;exact ⟨x,h1,h2,rfl⟩
theorem visF_some {p:List Int→Bool}:∀ {xs:List (List Int)} {o:Option (List Int)},(visF p xs o).1=true→∃ x,(visF p xs o).2=some x∧x ∈ xs∧p x=true
 | [],o,h=>by simp [visF] at h
 | x :: xs,o,h=>by
  simp only [visF] at h ⊢
  by_cases c:p x=true
  ·rw [if_pos c];exact ⟨x,rfl,by simp,c⟩
  ·rw [if_neg c] at h ⊢
   obtain ⟨y,h1,h2,h3⟩:=visF_some h
   exact ⟨y,h1,List.mem_cons_of_mem _ h2,h3⟩
theorem visF_none {p:List Int→Bool}:∀ {xs:List (List Int)} {o:Option (List Int)},¬ (visF p xs o).1=true→∀ x ∈ xs,p x=false
 | [],o,h,x,hx=>by cases hx
 | y :: xs,o,h,x,hx=>by
  simp only [visF] at h
  by_cases c:p y=true
  ·rw [if_pos c] at h;exact absurd rfl h
  ·rw [if_neg c] at h
   rcases List.mem_cons.1 hx with rfl|hx
   ·simpa using c
   ·exact visF_none h x hx
theorem pckF_best {p:List Int→Bool} {of:List Int}:∀ {n:Nat} {o:Option (List Int)},(pckF p of n o=[] ∨ ((pckF p of n o).Sublist of∧p (pckF p of n o)=true))∧∀ s,s.Sublist of→p s=true→s.length≤n→s.length≤(pckF p of n o).length
 | 0,o=>⟨.inl rfl,fun s _ _ h=>by omega⟩
 | n+1,o=>by
  simp only [pckF]
  by_cases c:(visF p (lexC of (n+1) [] 0) o).1=true
  ·rw [if_pos c]
   obtain ⟨x,h1,h2,h3⟩:=visF_some c
   obtain ⟨h4,h5⟩:=lexC_all.1 h2
   rw [h1]
   exact ⟨.inr ⟨h4,h3⟩,fun s _ _ h=>by simp only [Option.getD_some];omega⟩
  ·rw [if_neg c]
   obtain ⟨a,b⟩:=pckF_best (p:=p) (of:=of) (n:=n) (o:=(visF p (lexC of (n+1) [] 0) o).2)
   refine ⟨a,fun s h1 h2 h3=>?_⟩
   by_cases e:s.length=n+1
   ·have:=visF_none c s (lexC_all.2 ⟨h1,e⟩)
    rw [h2] at this
    cases this
   ·exact b s h1 h2 (by omega)
theorem clsF_best {L:Lom}:∀ {k m:Nat} {o:Option (List Int)},(∃ s,s.Sublist (allI L)∧clsP L s=true∧m<s.length∧s.length≤m+k)→∃ x,clsF L k m o=some x∧x.Sublist (allI L)∧clsP L x=true∧∀ s,s.Sublist (allI L)→clsP L s=true→m<s.length→x.length≤s.length
 | 0,m,o,⟨s,_,_,h1,h2⟩=>by omega
 | k+1,m,o,⟨s,h1,h2,h3,h4⟩=>by
  simp only [clsF]
  by_cases c:(visF (clsP L) (lexC (upto L.ss.length) (m+1) [] 0) o).1=true
  ·rw [if_pos c]
   obtain ⟨x,q1,q2,q3⟩:=visF_some c
   obtain ⟨q4,q5⟩:=lexC_all.1 q2
   exact ⟨x,q1,q4,q3,fun s _ _ h=>by omega⟩
  ·rw [if_neg c]
   have hno:∀ s,s.Sublist (allI L)→clsP L s=true→s.length ≠ m+1:=fun s a b e=>by
    have:=visF_none c s (lexC_all.2 ⟨a,e⟩)
    rw [b] at this
    cases this
   obtain ⟨x,q1,q2,q3,q4⟩:=clsF_best (L:=L) (k:=k) (m:=m+1) (o:=(visF (clsP L) (lexC (upto L.ss.length) (m+1) [] 0) o).2) ⟨s,h1,h2,by have:=hno s h1 h2;omega,by omega⟩
   exact ⟨x,q1,q2,q3,fun s a b e=>q4 s a b (by have:=hno s a b;omega)⟩
theorem apart_len {L:Lom} {t:List Brk} (ht:XpA L t) {l:List Int} (hn:l.Nodup) (hl:∀ i ∈ l,i ∈ (deskA L).1) (hp:∀ a ∈ l,∀ b ∈ l,a=b ∨ aprT L a b):l.length≤t.length:=by
 refine pigeon (R:=fun i b=>tch L b (sgtI L i)) hn (fun i hi=>?_) fun a ha c hc b hb h1 h2=>?_
 ·have:=deskA_mem.1 (hl i hi)
  exact (ht.2 i (upto_mem.2 this.1)).2 this.2
 ·rcases hp a ha c hc with q|q
  ·exact q
  ·refine absurd ⟨h1,h2⟩ (q b (ht.1.2 b hb) fun i hi hbi htc=>?_)
   have:=(ht.2 i hi).1 ⟨b,hb,htc⟩
   rw [hbi] at this
   cases this
theorem pckP_iff {L:Lom} (hc:chkM L=0) {l:List Int} (hl:∀ i ∈ l,i ∈ (deskA L).1):pckP L l=true ↔ ∀ a ∈ l,∀ b ∈ l,a=b ∨ aprT L a b:=by
 unfold pckP
 rw [List.all_eq_true]
 refine forall_congr' fun a=>imp_congr_right fun ha=>?_
 rw [List.all_eq_true]
 refine forall_congr' fun b=>imp_congr_right fun hb=>?_
 obtain ⟨a1,a2⟩:=ixB_get (hl a ha)
 obtain ⟨b1,b2⟩:=ixB_get (hl b hb)
 rw [Bool.or_eq_true,decide_eq_true_eq,aprM_iff hc a1 b1,a2,b2]
theorem pckM_best {L:Lom} (hc:chkM L=0) {t:List Brk} (ht:XpA L t):(pckM L).2=0∧(pckM L).1.Sublist (deskA L).1∧(∀ a ∈ (pckM L).1,∀ b ∈ (pckM L).1,a=b ∨ aprT L a b) ∧
  ∀ s:List Int,s.Sublist (deskA L).1→(∀ a ∈ s,∀ b ∈ s,a=b ∨ aprT L a b)→s.length≤L.ps.length→s.length≤(pckM L).1.length:=by
 unfold pckM
 rw [tolE_val hc ht]
 obtain ⟨a,b⟩:=pckF_best (p:=pckP L) (of:=(deskA L).1) (n:=min (deskA L).1.length L.ps.length) (o:=none)
 refine ⟨rfl,?_,?_,?_⟩
 ·show (pckF _ _ _ _).Sublist _
  rcases a with a|a
  ·rw [a];exact List.nil_sublist _
  ·exact a.1
 ·show ∀ a ∈ pckF _ _ _ _,∀ b ∈ pckF _ _ _ _,_
  rcases a with a|a
  ·rw [a];intro x hx;cases hx
  ·exact (pckP_iff hc (fun i hi=>a.1.subset hi)).1 a.2
 ·intro s h1 h2 h3
  refine b s h1 ((pckP_iff hc (fun i hi=>h1.subset hi)).2 h2) ?_
  have:=h1.length_le
  omega
theorem clsP_iff {L:Lom} (hc:chkM L=0) {l:List Int} (hl:l.Sublist (allI L)):clsP L l=true ↔ ¬ ∃ t,Xp L l t:=by
 unfold clsP
 rw [decide_eq_true_eq,exp_none hc (fun i hi=>allI_ok i (hl.subset hi))]
 constructor
 ·rintro h ⟨t,ht⟩;obtain ⟨b,_,q⟩:=h t ht;simp [allF] at q
 ·intro h t ht;exact absurd ⟨t,ht⟩ h
theorem clsM_least {L:Lom} (hc:chkM L=0) (hn:¬ ∃ t,XpA L t):(clsM L).2=0∧(clsM L).1.Sublist (allI L)∧(¬ ∃ t,Xp L (clsM L).1 t)∧∀ s:List Int,s.Sublist (allI L)→s.length<(clsM L).1.length→∃ t,Xp L s t:=by
 have e0:=tolE_no hc hn (b:=false)
 have hnil:∃ t,Xp L [] t:=⟨[],⟨.nil,fun b hb=>by cases hb⟩,fun i hi=>by cases hi⟩
 have hne:L.ss.length ≠ 0:=fun h=>hn (by
  obtain ⟨t,ht⟩:=hnil
  have:allI L=[]:=List.eq_nil_of_length_eq_zero (by rw [upto_len,h])
  exact ⟨t,by unfold XpA;rw [this];exact ht⟩)
 obtain ⟨x,h1,h2,h3,h4⟩:=clsF_best (L:=L) (k:=L.ss.length) (m:=0) (o:=none) ⟨allI L,List.Sublist.refl _,(clsP_iff hc (List.Sublist.refl _)).2 hn,by rw [upto_len];omega,by rw [upto_len];omega⟩
 have e1:clsM L=(x,0):=by
  unfold clsM
  rw [if_neg (by rw [e0];simp),if_pos (by rw [e0];simp),h1]
  rfl
 rw [e1]
 refine ⟨rfl,h2,(clsP_iff hc h2).1 h3,fun s hs hl=>?_⟩
 refine Classical.byContradiction fun q=>?_
 by_cases e:s.length=0
 ·rw [List.eq_nil_of_length_eq_zero e] at q
  exact q hnil
 ·have:=h4 s hs ((clsP_iff hc hs).2 q) (by omega)
  have hl:s.length<x.length:=hl
  omega
theorem clsM_none {L:Lom} (hc:chkM L=0) {t:List Brk} (ht:XpA L t):clsM L=([],6):=by
 unfold clsM
 rw [if_pos]
 rw [tolE_val hc ht];rfl
end F4
end Go.AM
namespace Go.AM
namespace F4
def lexB:List Int→List Int→Bool
 | x :: a,y :: b=>if x=y then lexB a b else decide (x<y)
 | _,_=>false
theorem lexB_irr:∀ a:List Int,lexB a a=false
 | []=>rfl
 | x :: a=>by simp only [lexB,if_true];exact lexB_irr a
theorem lexB_trans:∀ {a b c:List Int},lexB a b=true→lexB b c=true→lexB a c=true
 | [],_,_,h,_=>by simp [lexB] at h
 | _ :: _,[],_,h,_=>by simp [lexB] at h
 | _ :: _,_ :: _,[],_,h=>by simp [lexB] at h
 | x :: a,y :: b,z :: c,h,k=>by
  simp only [lexB] at h k ⊢
  by_cases e1:x=y
  ·rw [if_pos e1] at h
   by_cases e2:y=z
   ·rw [if_pos e2] at k;rw [if_pos (by omega)];exact lexB_trans h k
   ·rw [if_neg e2] at k;rw [if_neg (by omega)];simp only [decide_eq_true_eq] at k ⊢;omega
  ·rw [if_neg e1] at h
   by_cases e2:y=z
   ·rw [if_neg (by omega)];simp only [decide_eq_true_eq] at h ⊢;omega
   ·rw [if_neg e2] at k;simp only [decide_eq_true_eq] at h k;rw [if_neg (by omega)];simp only [decide_eq_true_eq];omega
theorem lexB_app:∀ (l:List Int) {a b:List Int},lexB (l++a) (l++b)=lexB a b
 | [],_,_=>rfl
 | x :: l,a,b=>by simp only [List.cons_append,lexB,if_true];exact lexB_app l
theorem lexC_pre {of:List Int}:∀ {d:Nat} {l:List Int} {a:Nat} {x:List Int},x ∈ lexC of d l a→∃ s,x=l++s:=fun h=>by
 obtain ⟨s,_,_,h⟩:=lexC_mem.1 h;exact ⟨s,h⟩
theorem lexC_sorted {of:List Int} (ho:of.Pairwise (·<·)):∀ (d:Nat) {l:List Int} {a:Nat},(lexC of d l a).Pairwise fun x y=>lexB x y=true
 | 0,l,a=>by simp [lexC]
 | d+1,l,a=>by
  rw [lexC,List.pairwise_flatMap]
  refine ⟨fun q _=>lexC_sorted ho d,?_⟩
  refine (List.pairwise_lt_range (n:=of.length-a)).imp_of_mem fun {q r} hq hr hqr x hx y hy=>?_
  rw [List.mem_range] at hq hr
  obtain ⟨s,rfl⟩:=lexC_pre hx
  obtain ⟨u,rfl⟩:=lexC_pre hy
  rw [List.append_assoc,List.append_assoc,lexB_app]
  have hlt:=List.pairwise_iff_getElem.1 ho (a+q) (a+r) (by omega) (by omega) (by omega)
  rw [getD_at (by omega),getD_at (by omega)]
  simp only [List.singleton_append,lexB]
  rw [if_neg (by omega)]
  simpa using hlt
theorem visF_first {p:List Int→Bool} {R:List Int→List Int→Prop}:∀ {xs:List (List Int)} {o:Option (List Int)},xs.Pairwise R→(visF p xs o).1=true→∃ x,(visF p xs o).2=some x∧x ∈ xs∧p x=true∧∀ y ∈ xs,p y=true→y=x ∨ R x y
 | [],o,_,h=>by simp [visF] at h
 | x :: xs,o,hr,h=>by
  simp only [visF] at h ⊢
  by_cases c:p x=true
  ·rw [if_pos c]
   refine ⟨x,rfl,by simp,c,fun y hy _=>?_⟩
   rcases List.mem_cons.1 hy with rfl|hy
   ·exact .inl rfl
   ·exact .inr (List.rel_of_pairwise_cons hr hy)
  ·rw [if_neg c] at h ⊢
   obtain ⟨y,h1,h2,h3,h4⟩:=visF_first (List.pairwise_cons.1 hr).2 h
   refine ⟨y,h1,List.mem_cons_of_mem _ h2,h3,fun z hz hp=>?_⟩
   rcases List.mem_cons.1 hz with rfl|hz
   ·exact absurd hp c
   ·exact h4 z hz hp
theorem pckF_lex {p:List Int→Bool} {of:List Int} (ho:of.Pairwise (·<·)):∀ {n:Nat} {o:Option (List Int)} {s:List Int},s.Sublist of→p s=true→s.length≤n→s.length=(pckF p of n o).length→s=pckF p of n o ∨ lexB (pckF p of n o) s=true
 | 0,o,s,_,_,h,_=>.inl (List.eq_nil_of_length_eq_zero (by omega:s.length=0))
 | n+1,o,s,h1,h2,h3,h4=>by
  simp only [pckF] at h4 ⊢
  by_cases c:(visF p (lexC of (n+1) [] 0) o).1=true
  ·rw [if_pos c] at h4 ⊢
   obtain ⟨x,q1,q2,q3,q4⟩:=visF_first (lexC_sorted ho (n+1)) c
   obtain ⟨q5,q6⟩:=lexC_all.1 q2
   rw [q1] at h4 ⊢
   simp only [Option.getD_some] at h4 ⊢
   exact q4 s (lexC_all.2 ⟨h1,by omega⟩) h2
  ·rw [if_neg c] at h4 ⊢
   by_cases e:s.length=n+1
   ·have:=visF_none c s (lexC_all.2 ⟨h1,e⟩)
    rw [h2] at this;cases this
   ·exact pckF_lex ho h1 h2 (by omega) h4
def pickO {α:Type} (better:α→α→Bool) (p:α→Bool) (b:Option α) (x:α):Option α:=if (p x && b.all fun y=>better x y)=true then some x else b
def memS (n s:Nat):List Int:=(upto n).filter fun i=>s.testBit i.toNat
def btG (x y:List Int):Bool:=decide (y.length<x.length) || (decide (x.length=y.length) && lexB x y)
def btL (x y:List Int):Bool:=decide (x.length<y.length) || (decide (x.length=y.length) && lexB x y)
def setsR (n:Nat):Nat→List (List Int)
 | 0=>[]
 | k+1=>setsR n k++[memS n (k+1)]
end F4
end Go.AM
namespace Go.AM
open Go.Proofs.Tryz
section
variable {α:Type} {E:Enc α} {P:Program} {base:Nat} {h:Heap} {v:AVal} {l:List α} {t e:TypeId} {zs:List AVal}
theorem app_empE (hR:Rows E h v l) (hl:l ≠ []) (hs:∀ y,(E.cells y).all AVal.scalar=true) (hsz:l.length<2147483648) (ht:elS P t=some (e,E.z,zs)) :
  appendA P base h t .emp v=some (.slice (some ⟨h.length,0,0⟩) l.length l.length,h++[rowE E e l 0]):=by
 have hn:l.length ≠ 0:=fun q=>hl (List.eq_nil_of_length_eq_zero q)
 simp only [appendA,ht,hR.lenA,hR.firstN,flat_scalar hs,if_true]
 rw [if_neg hn,if_pos (show l.length<2 ^ 31 by omega)]
 first|done|rfl
end
end Go.AM
namespace Go.AM
namespace F4
open Go.Proofs.Tryz
attribute [-go_sem] put_ne put_same
attribute [local go_sem ↓] put_if
def encV:Enc (Int × AVal):=⟨2,fun w=>[.int .i64 w.1,norm w.2],fun _=>rfl,by decide⟩
theorem encV_sc:∀ y,(encV.cells y).all AVal.scalar=true:=fun y=>by
 have:(norm y.2).scalar=true:=by unfold norm;split<;>simp_all [AVal.scalar]
 simp only [encV,List.all_cons,this,List.all_nil]
 rfl
theorem idxF_PS {base:Nat} {h:Heap} {v g:AVal} {l:List (Int × Int)} (p:Int × Int→Bool) (hR:Rows encT h v l) (hg:∀ base x,x ∈ l→callL prog raw base g [.agg (encT.cells x)] h=some (.bool (p x),h)) :
  callL prog raw base (.fn 295 [] []) [v,g] h=some (.int .i64 (idx p l),h):=by
 have hb:l.length<2 ^ 60:=hR.1
 refine callL_run func295 rfl rfl ?_
 have hsp:=@Nat.succ_ne_zero;repeat' (first|simp (disch:=first|exact dq|fail) only [go_sem,↓reduceIte,hsp,hR.len Fc.el100]|refine WP_drw ?_|refine cnd_intro (fun hsp=>?_) fun hsp=>?_)
 refine WP_loop (fun σ=>∃ n:Nat,σ.fr 8=.int .i64 (n:Int)∧σ.fr 0=v∧σ.fr 1=g∧σ.fr 7=.int .i64 (l.length:Int)∧σ.h=h∧n≤l.length∧(∀ x ∈ l.take n,p x=false)) (fun σ=>match σ.fr 8 with|.int _ x=>(((l.length:Nat):Int)-x).toNat|_=>0) ?_ ?_
 ·refine ⟨0,?_,?_,?_,?_,?_,by omega,?_⟩
  iterate 5 focus (first|rfl|(simp (disch:=first|exact dq|fail) only [go_sem,↓reduceIte,Int.natCast_zero];first|done|rfl))
  intro x hx;simp at hx
 ·rintro ⟨fr,hp⟩ ⟨n,r8,r0,r1,r7,rh,hi,hP⟩
  dsimp only at r8 r0 r1 r7 rh hi hP
  subst rh
  by_cases hn:n<l.length
  ·have hlt:((n:Int)<(l.length:Int))=True:=eq_true (by omega)
   have hx:l[n]?=some l[n]:=List.getElem?_eq_getElem hn
   have had:=hR.addr (i:=(n:Int)) Fc.el100 Fc.ar100 (by omega) (by omega)
   rw [Int.toNat_natCast] at had
   have hld:=hR.load Fc.ty189 hx
   have hc:=fun base=>hg base l[n] (List.getElem_mem hn)
   cases hp:p l[n] with
   | true =>
    rw [hp] at hc
    have hsp:=@Nat.succ_ne_zero;repeat' (first|simp (disch:=first|exact dq|fail) only [go_sem,↓reduceIte,hsp,r8,r0,r1,r7,hlt,had,hld,hc]|refine WP_drw ?_|refine cnd_intro (fun hsp=>?_) fun hsp=>?_)
    rw [idx_hit p hn hP hp]
    all_goals (first|refine fI ?_|refine fB ?_|refine fII ?_ ?_|refine fBI ?_ ?_|refine fIII ?_ ?_ ?_|refine fIIB ?_ ?_ ?_|skip);all_goals (try dsimp only);all_goals (try with_reducible rfl);all_goals (try omega)
   | false =>
    rw [hp] at hc
    have hsp:=@Nat.succ_ne_zero;repeat' (first|simp (disch:=first|exact dq|fail) only [go_sem,↓reduceIte,hsp,r8,r0,r1,r7,hlt,had,hld,hc]|refine WP_drw ?_|refine cnd_intro (fun hsp=>?_) fun hsp=>?_)
    exact ⟨⟨n+1,by simp,by omega,take_next p hn hP hp⟩,by omega⟩
  ·have hlt:((n:Int)<(l.length:Int))=False:=eq_false (by omega)
   obtain rfl:n=l.length:=by omega
   have hsp:=@Nat.succ_ne_zero;repeat' (first|simp (disch:=first|exact dq|fail) only [go_sem,↓reduceIte,hsp,r8,r0,r1,r7,hlt]|refine WP_drw ?_|refine cnd_intro (fun hsp=>?_) fun hsp=>?_)
   rw [idx_miss p hP]
   all_goals (first|refine fI ?_|refine fB ?_|refine fII ?_ ?_|refine fBI ?_ ?_|refine fIII ?_ ?_ ?_|refine fIIB ?_ ?_ ?_|skip);all_goals (try dsimp only);all_goals (try with_reducible rfl);all_goals (try omega)
theorem anyF_PS {base:Nat} {h:Heap} {v g:AVal} {l:List (Int × Int)} (p:Int × Int→Bool) (hR:Rows encT h v l) (hg:∀ base x,x ∈ l→callL prog raw base g [.agg (encT.cells x)] h=some (.bool (p x),h)) :
  callL prog raw base (.fn 287 [] []) [v,g] h=some (.bool (l.any p),h):=by
 have hi:=fun base=>idxF_PS (base:=base) p hR hg
 have h0:=idx_any p l
 refine callL_run func287 rfl rfl ?_
 have hsp:=@Nat.succ_ne_zero;repeat' (first|simp (disch:=first|exact dq|fail) only [go_sem,↓reduceIte,hsp,hi]|refine WP_drw ?_|refine cnd_intro (fun hsp=>?_) fun hsp=>?_)
 refine fB ?_
 by_cases h1:l.any p=true
 ·rw [h1];simpa using h0.2 h1
 ·have h2:¬ 0≤idx p l:=fun h=>h1 (h0.1 h)
  simp only [Bool.not_eq_true] at h1
  rw [h1];simpa using h2
theorem not_PS {base id:Nat} {h:Heap} {g:AVal} {x:Int × Int} {b:Bool} (hid:h[id]?=some ⟨.cells [g] 358 false false,0⟩) (hg:∀ base T,callL prog raw base g [.agg (encT.cells x)] (h++T)=some (.bool b,h++T)) :
  callL prog raw base (.fn 288 [] [.ptr (some ⟨id,0,0⟩)]) [.agg (encT.cells x)] h=some (.bool (!b),h):=by
 have hgi:=lt_of_get hid
 simp only [encT] at hg ⊢
 refine callL_run func288 rfl rfl ?_
 have hsp:=@Nat.succ_ne_zero;repeat' (first|simp (disch:=first|exact dq|fail) only [go_sem,↓reduceIte,hsp,hid,hg]|refine WP_drw ?_|refine cnd_intro (fun hsp=>?_) fun hsp=>?_)
 exact fB rfl
theorem every_PS {base:Nat} {h:Heap} {v g:AVal} {l:List (Int × Int)} (p:Int × Int→Bool) (hR:Rows encT h v l) (hg:∀ base T x,x ∈ l→callL prog raw base g [.agg (encT.cells x)] (h++T)=some (.bool (p x),h++T)) (h1:One g) :
  callL prog raw base (.fn 263 [] []) [v,g] h=some (.bool (l.all p),h):=by
 have hc:=fun base=>anyF_PS (base:=base) (fun x=>!p x) hR.app (fun base x hx=>not_PS (x:=x) (get_eq rfl) (fun base T=>by have:=hg base ([⟨.cells [g] 358 false false,0⟩]++T) x hx;rwa [← List.append_assoc] at this))
 refine callL_run func263 rfl rfl ?_
 have hsp:=@Nat.succ_ne_zero;repeat' (first|simp (disch:=first|exact dq|fail) only [go_sem,↓reduceIte,hsp,hc]|refine WP_drw ?_|refine cnd_intro (fun hsp=>?_) fun hsp=>?_)
 refine fB ?_
 rw [List.any_eq_not_all_not]
 simp
theorem idxF_PW {base:Nat} {h:Heap} {v g:AVal} {l:List (Int × AVal)} (p:Int × AVal→Bool) (hR:Rows encV h v l) (hg:∀ base x,x ∈ l→callL prog raw base g [.agg (encV.cells x)] h=some (.bool (p x),h)) :
  callL prog raw base (.fn 296 [] []) [v,g] h=some (.int .i64 (idx p l),h):=by
 have hb:l.length<2 ^ 60:=hR.1
 refine callL_run func296 rfl rfl ?_
 have hsp:=@Nat.succ_ne_zero;repeat' (first|simp (disch:=first|exact dq|fail) only [go_sem,↓reduceIte,hsp,hR.len Fc.el101]|refine WP_drw ?_|refine cnd_intro (fun hsp=>?_) fun hsp=>?_)
 refine WP_loop (fun σ=>∃ n:Nat,σ.fr 8=.int .i64 (n:Int)∧σ.fr 0=v∧σ.fr 1=g∧σ.fr 7=.int .i64 (l.length:Int)∧σ.h=h∧n≤l.length∧(∀ x ∈ l.take n,p x=false)) (fun σ=>match σ.fr 8 with|.int _ x=>(((l.length:Nat):Int)-x).toNat|_=>0) ?_ ?_
 ·refine ⟨0,?_,?_,?_,?_,?_,by omega,?_⟩
  iterate 5 focus (first|rfl|(simp (disch:=first|exact dq|fail) only [go_sem,↓reduceIte,Int.natCast_zero];first|done|rfl))
  intro x hx;simp at hx
 ·rintro ⟨fr,hp⟩ ⟨n,r8,r0,r1,r7,rh,hi,hP⟩
  dsimp only at r8 r0 r1 r7 rh hi hP
  subst rh
  by_cases hn:n<l.length
  ·have hlt:((n:Int)<(l.length:Int))=True:=eq_true (by omega)
   have hx:l[n]?=some l[n]:=List.getElem?_eq_getElem hn
   have had:=hR.addr (i:=(n:Int)) Fc.el101 Fc.ar101 (by omega) (by omega)
   rw [Int.toNat_natCast] at had
   have hld:=hR.load Fc.ty191 hx
   have hc:=fun base=>hg base l[n] (List.getElem_mem hn)
   cases hp:p l[n] with
   | true =>
    rw [hp] at hc
    have hsp:=@Nat.succ_ne_zero;repeat' (first|simp (disch:=first|exact dq|fail) only [go_sem,↓reduceIte,hsp,r8,r0,r1,r7,hlt,had,hld,hc]|refine WP_drw ?_|refine cnd_intro (fun hsp=>?_) fun hsp=>?_)
    rw [idx_hit p hn hP hp]
    all_goals (first|refine fI ?_|refine fB ?_|refine fII ?_ ?_|refine fBI ?_ ?_|refine fIII ?_ ?_ ?_|refine fIIB ?_ ?_ ?_|skip);all_goals (try dsimp only);all_goals (try with_reducible rfl);all_goals (try omega)
   | false =>
    rw [hp] at hc
    have hsp:=@Nat.succ_ne_zero;repeat' (first|simp (disch:=first|exact dq|fail) only [go_sem,↓reduceIte,hsp,r8,r0,r1,r7,hlt,had,hld,hc]|refine WP_drw ?_|refine cnd_intro (fun hsp=>?_) fun hsp=>?_)
    exact ⟨⟨n+1,by simp,by omega,take_next p hn hP hp⟩,by omega⟩
  ·have hlt:((n:Int)<(l.length:Int))=False:=eq_false (by omega)
   obtain rfl:n=l.length:=by omega
   have hsp:=@Nat.succ_ne_zero;repeat' (first|simp (disch:=first|exact dq|fail) only [go_sem,↓reduceIte,hsp,r8,r0,r1,r7,hlt]|refine WP_drw ?_|refine cnd_intro (fun hsp=>?_) fun hsp=>?_)
   rw [idx_miss p hP]
   all_goals (first|refine fI ?_|refine fB ?_|refine fII ?_ ?_|refine fBI ?_ ?_|refine fIII ?_ ?_ ?_|refine fIIB ?_ ?_ ?_|skip);all_goals (try dsimp only);all_goals (try with_reducible rfl);all_goals (try omega)
theorem anyF_PW {base:Nat} {h:Heap} {v g:AVal} {l:List (Int × AVal)} (p:Int × AVal→Bool) (hR:Rows encV h v l) (hg:∀ base x,x ∈ l→callL prog raw base g [.agg (encV.cells x)] h=some (.bool (p x),h)) :
  callL prog raw base (.fn 289 [] []) [v,g] h=some (.bool (l.any p),h):=by
 have hi:=fun base=>idxF_PW (base:=base) p hR hg
 have h0:=idx_any p l
 refine callL_run func289 rfl rfl ?_
 have hsp:=@Nat.succ_ne_zero;repeat' (first|simp (disch:=first|exact dq|fail) only [go_sem,↓reduceIte,hsp,hi]|refine WP_drw ?_|refine cnd_intro (fun hsp=>?_) fun hsp=>?_)
 refine fB ?_
 by_cases h1:l.any p=true
 ·rw [h1];simpa using h0.2 h1
 ·have h2:¬ 0≤idx p l:=fun h=>h1 (h0.1 h)
  simp only [Bool.not_eq_true] at h1
  rw [h1];simpa using h2
theorem not_PW {base id:Nat} {h:Heap} {g:AVal} {x:Int × AVal} {b:Bool} (hid:h[id]?=some ⟨.cells [g] 360 false false,0⟩) (hg:∀ base T,callL prog raw base g [.agg (encV.cells x)] (h++T)=some (.bool b,h++T)) :
  callL prog raw base (.fn 290 [] [.ptr (some ⟨id,0,0⟩)]) [.agg (encV.cells x)] h=some (.bool (!b),h):=by
 have hgi:=lt_of_get hid
 simp only [encV] at hg ⊢
 refine callL_run func290 rfl rfl ?_
 have hsp:=@Nat.succ_ne_zero;repeat' (first|simp (disch:=first|exact dq|fail) only [go_sem,↓reduceIte,hsp,hid,hg]|refine WP_drw ?_|refine cnd_intro (fun hsp=>?_) fun hsp=>?_)
 exact fB rfl
theorem every_PW {base:Nat} {h:Heap} {v g:AVal} {l:List (Int × AVal)} (p:Int × AVal→Bool) (hR:Rows encV h v l) (hg:∀ base T x,x ∈ l→callL prog raw base g [.agg (encV.cells x)] (h++T)=some (.bool (p x),h++T)) (h1:One g) :
  callL prog raw base (.fn 265 [] []) [v,g] h=some (.bool (l.all p),h):=by
 have hc:=fun base=>anyF_PW (base:=base) (fun x=>!p x) hR.app (fun base x hx=>not_PW (x:=x) (get_eq rfl) (fun base T=>by have:=hg base ([⟨.cells [g] 360 false false,0⟩]++T) x hx;rwa [← List.append_assoc] at this))
 refine callL_run func265 rfl rfl ?_
 have hsp:=@Nat.succ_ne_zero;repeat' (first|simp (disch:=first|exact dq|fail) only [go_sem,↓reduceIte,hsp,hc]|refine WP_drw ?_|refine cnd_intro (fun hsp=>?_) fun hsp=>?_)
 refine fB ?_
 rw [List.any_eq_not_all_not]
 simp
theorem idxF_PK {base:Nat} {h:Heap} {v g:AVal} {l:List (Int)} (p:Int→Bool) (hR:Rows encI h v l) (hg:∀ base x,x ∈ l→callL prog raw base g [.int .i64 x] h=some (.bool (p x),h)) :
  callL prog raw base (.fn 273 [] []) [v,g] h=some (.int .i64 (idx p l),h):=by
 have hb:l.length<2 ^ 60:=hR.1
 refine callL_run func273 rfl rfl ?_
 have hsp:=@Nat.succ_ne_zero;repeat' (first|simp (disch:=first|exact dq|fail) only [go_sem,↓reduceIte,hsp,hR.len Fc.el105]|refine WP_drw ?_|refine cnd_intro (fun hsp=>?_) fun hsp=>?_)
 refine WP_loop (fun σ=>∃ n:Nat,σ.fr 8=.int .i64 (n:Int)∧σ.fr 0=v∧σ.fr 1=g∧σ.fr 7=.int .i64 (l.length:Int)∧σ.h=h∧n≤l.length∧(∀ x ∈ l.take n,p x=false)) (fun σ=>match σ.fr 8 with|.int _ x=>(((l.length:Nat):Int)-x).toNat|_=>0) ?_ ?_
 ·refine ⟨0,?_,?_,?_,?_,?_,by omega,?_⟩
  iterate 5 focus (first|rfl|(simp (disch:=first|exact dq|fail) only [go_sem,↓reduceIte,Int.natCast_zero];first|done|rfl))
  intro x hx;simp at hx
 ·rintro ⟨fr,hp⟩ ⟨n,r8,r0,r1,r7,rh,hi,hP⟩
  dsimp only at r8 r0 r1 r7 rh hi hP
  subst rh
  by_cases hn:n<l.length
  ·have hlt:((n:Int)<(l.length:Int))=True:=eq_true (by omega)
   have hx:l[n]?=some l[n]:=List.getElem?_eq_getElem hn
   have had:=hR.addr (i:=(n:Int)) Fc.el105 Fc.ar105 (by omega) (by omega)
   rw [Int.toNat_natCast] at had
   have hld:=hR.cell (o:=0) Fc.ty108 hx rfl
   have hc:=fun base=>hg base l[n] (List.getElem_mem hn)
   cases hp:p l[n] with
   | true =>
    rw [hp] at hc
    have hsp:=@Nat.succ_ne_zero;repeat' (first|simp (disch:=first|exact dq|fail) only [go_sem,↓reduceIte,hsp,r8,r0,r1,r7,hlt,had,hld,hc]|refine WP_drw ?_|refine cnd_intro (fun hsp=>?_) fun hsp=>?_)
    rw [idx_hit p hn hP hp]
    all_goals (first|refine fI ?_|refine fB ?_|refine fII ?_ ?_|refine fBI ?_ ?_|refine fIII ?_ ?_ ?_|refine fIIB ?_ ?_ ?_|skip);all_goals (try dsimp only);all_goals (try with_reducible rfl);all_goals (try omega)
   | false =>
    rw [hp] at hc
    have hsp:=@Nat.succ_ne_zero;repeat' (first|simp (disch:=first|exact dq|fail) only [go_sem,↓reduceIte,hsp,r8,r0,r1,r7,hlt,had,hld,hc]|refine WP_drw ?_|refine cnd_intro (fun hsp=>?_) fun hsp=>?_)
    exact ⟨⟨n+1,by simp,by omega,take_next p hn hP hp⟩,by omega⟩
  ·have hlt:((n:Int)<(l.length:Int))=False:=eq_false (by omega)
   obtain rfl:n=l.length:=by omega
   have hsp:=@Nat.succ_ne_zero;repeat' (first|simp (disch:=first|exact dq|fail) only [go_sem,↓reduceIte,hsp,r8,r0,r1,r7,hlt]|refine WP_drw ?_|refine cnd_intro (fun hsp=>?_) fun hsp=>?_)
   rw [idx_miss p hP]
   all_goals (first|refine fI ?_|refine fB ?_|refine fII ?_ ?_|refine fBI ?_ ?_|refine fIII ?_ ?_ ?_|refine fIIB ?_ ?_ ?_|skip);all_goals (try dsimp only);all_goals (try with_reducible rfl);all_goals (try omega)
theorem anyF_PK {base:Nat} {h:Heap} {v g:AVal} {l:List (Int)} (p:Int→Bool) (hR:Rows encI h v l) (hg:∀ base x,x ∈ l→callL prog raw base g [.int .i64 x] h=some (.bool (p x),h)) :
  callL prog raw base (.fn 225 [] []) [v,g] h=some (.bool (l.any p),h):=by
 have hi:=fun base=>idxF_PK (base:=base) p hR hg
 have h0:=idx_any p l
 refine callL_run func225 rfl rfl ?_
 have hsp:=@Nat.succ_ne_zero;repeat' (first|simp (disch:=first|exact dq|fail) only [go_sem,↓reduceIte,hsp,hi]|refine WP_drw ?_|refine cnd_intro (fun hsp=>?_) fun hsp=>?_)
 refine fB ?_
 by_cases h1:l.any p=true
 ·rw [h1];simpa using h0.2 h1
 ·have h2:¬ 0≤idx p l:=fun h=>h1 (h0.1 h)
  simp only [Bool.not_eq_true] at h1
  rw [h1];simpa using h2
theorem not_PK {base id:Nat} {h:Heap} {g:AVal} {x:Int} {b:Bool} (hid:h[id]?=some ⟨.cells [g] 296 false false,0⟩) (hg:∀ base T,callL prog raw base g [.int .i64 x] (h++T)=some (.bool b,h++T)) :
  callL prog raw base (.fn 226 [] [.ptr (some ⟨id,0,0⟩)]) [.int .i64 x] h=some (.bool (!b),h):=by
 have hgi:=lt_of_get hid
 have hg0:=fun base=>hg base []
 simp only [List.append_nil] at hg0
 refine callL_run func226 rfl rfl ?_
 have hsp:=@Nat.succ_ne_zero;repeat' (first|simp (disch:=first|exact dq|fail) only [go_sem,↓reduceIte,hsp,hid,hg0]|refine WP_drw ?_|refine cnd_intro (fun hsp=>?_) fun hsp=>?_)
 exact fB rfl
theorem every_PK {base:Nat} {h:Heap} {v g:AVal} {l:List (Int)} (p:Int→Bool) (hR:Rows encI h v l) (hg:∀ base T x,x ∈ l→callL prog raw base g [.int .i64 x] (h++T)=some (.bool (p x),h++T)) (h1:One g) :
  callL prog raw base (.fn 171 [] []) [v,g] h=some (.bool (l.all p),h):=by
 have hc:=fun base=>anyF_PK (base:=base) (fun x=>!p x) hR.app (fun base x hx=>not_PK (x:=x) (get_eq rfl) (fun base T=>by have:=hg base ([⟨.cells [g] 296 false false,0⟩]++T) x hx;rwa [← List.append_assoc] at this))
 refine callL_run func171 rfl rfl ?_
 have hsp:=@Nat.succ_ne_zero;repeat' (first|simp (disch:=first|exact dq|fail) only [go_sem,↓reduceIte,hsp,hc]|refine WP_drw ?_|refine cnd_intro (fun hsp=>?_) fun hsp=>?_)
 refine fB ?_
 rw [List.any_eq_not_all_not]
 simp
theorem not_PI {base id:Nat} {h:Heap} {g:AVal} {x:Int} {b:Bool} (hid:h[id]?=some ⟨.cells [g] 132 false false,0⟩) (hg:∀ base T,callL prog raw base g [.int .i64 x] (h++T)=some (.bool b,h++T)) :
  callL prog raw base (.fn 291 [] [.ptr (some ⟨id,0,0⟩)]) [.int .i64 x] h=some (.bool (!b),h):=by
 have hgi:=lt_of_get hid
 have hg0:=fun base=>hg base []
 simp only [List.append_nil] at hg0
 refine callL_run func291 rfl rfl ?_
 have hsp:=@Nat.succ_ne_zero;repeat' (first|simp (disch:=first|exact dq|fail) only [go_sem,↓reduceIte,hsp,hid,hg0]|refine WP_drw ?_|refine cnd_intro (fun hsp=>?_) fun hsp=>?_)
 exact fB rfl
theorem every_PI {base:Nat} {h:Heap} {v g:AVal} {l:List (Int)} (p:Int→Bool) (hR:Ints h v l) (hg:∀ base T x,x ∈ l→callL prog raw base g [.int .i64 x] (h++T)=some (.bool (p x),h++T)) (h1:One g) :
  callL prog raw base (.fn 267 [] []) [v,g] h=some (.bool (l.all p),h):=by
 have hc:=fun base=>anyF_I (base:=base) (fun x=>!p x) hR.app (fun base x hx=>not_PI (x:=x) (get_eq rfl) (fun base T=>by have:=hg base ([⟨.cells [g] 132 false false,0⟩]++T) x hx;rwa [← List.append_assoc] at this))
 refine callL_run func267 rfl rfl ?_
 have hsp:=@Nat.succ_ne_zero;repeat' (first|simp (disch:=first|exact dq|fail) only [go_sem,↓reduceIte,hsp,hc]|refine WP_drw ?_|refine cnd_intro (fun hsp=>?_) fun hsp=>?_)
 refine fB ?_
 rw [List.any_eq_not_all_not]
 simp
end F4
end Go.AM
