/-
  Contracts: the sights that are the weaver's in all truths, as the reference says it.
-/
import Derived.Test.YtlhmeoeamcgcmaaGreatE61
set_option linter.unusedSimpArgs false
set_option linter.unusedVariables false
namespace Go.AM
open Go.Proofs.Tryz
attribute [-go_sem] put_ne put_same
attribute [local go_sem ↓] put_if
def wvsB (L:Lom) (ts:List (List Brk)) (s:Sgt):Bool:=s.bad && ts.all fun t=>wvB L t s
def wvsR (L:Lom) (ts:List (List Brk)) (n:Nat):List Int:=(upto n).filter fun i=>wvsB L ts (L.ss.getD i.toNat sgt0)
theorem wvsR_succ {L:Lom} {ts:List (List Brk)} {n:Nat}:wvsR L ts (n+1)=wvsR L ts n++(if wvsB L ts (L.ss.getD n sgt0)=true then [(n:Int)] else []):=by
 unfold wvsR
 rw [upto_succ,List.filter_append]
 congr 1
 simp only [List.filter_cons,List.filter_nil,Int.toNat_natCast]
theorem wvsR_len {L:Lom} {ts:List (List Brk)} {n:Nat}:(wvsR L ts n).length≤n:=by
 have:=List.length_filter_le (fun i:Int=>wvsB L ts (L.ss.getD i.toNat sgt0)) (upto n)
 rw [upto_len] at this
 exact this
theorem all_take_succ {α:Type} (f:α→Bool) {l:List α} {n:Nat} {x:α} (h:l[n]?=some x):(l.take (n+1)).all f=((l.take n).all f && f x):=by
 rw [List.take_add_one,h,List.all_append]
 simp
theorem all_take_no {α:Type} (f:α→Bool) {l:List α} {n:Nat} (h:(l.take n).all f=false):l.all f=false:=by
 rw [Bool.eq_false_iff] at h ⊢
 exact fun q=>h (List.all_eq_true.2 fun x hx=>List.all_eq_true.1 q x (List.mem_of_mem_take hx))
set_option maxHeartbeats 4000000 in
theorem run_weaversR {base:Nat} {h:Heap} {L:Lom} {pv sv av:AVal} {ts:List (List Brk)} (hb:base≤h.length) (hP:Parts h pv L.ps) (hS:Rows encS h sv L.ss) (hc:chkM L=0) (hr:∀ p ∈ L.ps,p.rib.length≤1000) (hA0:AllAt 0 h av ts) (hl:ts.length≤3000) (ht:∀ t ∈ ts,(∀ b ∈ t,brkOk L b)∧t.length≤6) :
  Ret prog raw base (.fn 37 [] []) [lomV L.R L.T pv sv,av] h (fun v H=>Ext h H∧Own encI 3 h.length H v (wvsR L ts L.ss.length)):=by
 have ho:=hP.one
 have ho2:=hS.one
 have ho3:=hA0.one
 obtain ⟨k1,k2,k3,k4,k5,k6⟩:=chkM_ok hc
 obtain ⟨G,eG⟩:∃ G,G=h++[(⟨.cells [.int .i64 L.R,.int .i64 L.T,pv,sv] 32 false false,0⟩:ABlk)]:=⟨_,rfl⟩
 have xG:Ext h G:=by rw [eG];exact .app .refl
 have hG:=xG.len
 have g1:G[h.length]?=some ⟨.cells [.int .i64 L.R,.int .i64 L.T,pv,sv] 32 false false,0⟩:=by rw [eG];exact get_eq rfl
 refine ret_raw func37 rfl (by kernel_rfl) ?_
 have hsp:=@Nat.succ_ne_zero;repeat' (first|simp (disch:=first|exact dq|fail) only [go_sem,↓reduceIte,hsp,← eG]|refine WP_drw ?_|refine cnd_intro (fun hsp=>?_) fun hsp=>?_)
 refine WP_count [(5,42)] 0 L.ss.length (Nat.zero_le _) (fun _ i fr h'=>fr 6=.int .i64 (i:Int)∧Ext G h'∧∃ v,fr 5=v∧Own encI 3 G.length h' v (wvsR L ts i)) ?_ ?_ ?_
 ·exact ⟨by (simp (disch:=first|exact dq|fail) only [go_sem,↓reduceIte,Int.natCast_zero];first|done|rfl),.refl,.slice none 0 0,by simp (disch:=first|exact dq|fail) only [go_sem,↓reduceIte],by simp only [wvsR,upto,lst];exact Own.nil⟩
 ·rintro i fr K hi0 hi hA ⟨r6,xK,v,r5,hO⟩
  have p1:=hA 1 rfl
  have p2:=hA 2 rfl
  have p4:=hA 4 rfl
  try simp (disch:=first|exact dq|fail) only [go_sem,↓reduceIte] at p1 p2 p4
  have pr1:=hA 1 rfl
  simp (disch:=first|exact dq|fail) only [go_sem,↓reduceIte] at pr1
  have hlt:((i:Int)<(L.ss.length:Int))=True:=eq_true (by omega)
  have xh:=xG.trans xK
  have hhK:=xh.len
  have hKl:=xK.len
  have g1K:=xK.get g1
  have l4:lenOpA prog K 30 sv=some (.int .i64 (L.ss.length:Int)):=(hS.ext xh).len Fc.el30
  obtain ⟨s,es⟩:∃ s,s=L.ss.getD i sgt0:=⟨_,rfl⟩
  have hs:L.ss[i]?=some s:=by rw [es];exact getD_some hi
  have ad:=(hS.ext xh).addr (P:=prog) (i:=(i:Int)) Fc.el30 Fc.ar30 (by omega) (by omega)
  rw [Int.toNat_natCast] at ad
  have s3:fieldAddrA prog 126 (elAdr sv encS.z i 0) 2=some (elAdr sv encS.z i 3):=elAdr_field (P:=prog) (i:=i) (o:=0) (off:=3) (q:=false) (n:=1) (hS.ext xh) (by omega) (by kernel_rfl) (by decide)
  have s4:loadP prog K 4 (elAdr sv encS.z i 3)=some (.bool s.bad):=(hS.ext xh).cell (P:=prog) Fc.ty4 hs (o:=3) (a:=.bool s.bad) rfl
  have hnK:=(hA0.ext xh).len (show ts.length<2 ^ 60 by omega)
  have hel:=wvsR_len (L:=L) (ts:=ts) (n:=i)
  have hsp:=@Nat.succ_ne_zero;repeat' (first|simp (disch:=first|exact dq|fail) only [go_sem,↓reduceIte,hsp,r6,r5,pr1,p1,p2,p4,hlt,g1K,l4,ad,s3,s4]|refine WP_drw ?_|refine cnd_intro (fun hsp=>?_) fun hsp=>?_)
  refine WP_count [(7,37)] 0 ts.length (Nat.zero_le _) (fun _ k fr h'=>fr 8=.int .i64 (k:Int)∧h'=K∧∃ x,fr 7=.bool x∧x=(s.bad && (ts.take k).all fun t=>wvB L t s)) ?_ ?_ ?_
  ·exact ⟨by (simp (disch:=first|exact dq|fail) only [go_sem,↓reduceIte,Int.natCast_zero];first|done|rfl),rfl,s.bad,by simp (disch:=first|exact dq|fail) only [go_sem,↓reduceIte],by simp⟩
  ·rintro k fr2 K' hk0 hk hA2 ⟨r8,eK,x,r7,ex⟩
   subst eK
   have d1:=hA2 1 rfl
   have d2:=hA2 2 rfl
   have d4:=hA2 4 rfl
   have d5:=hA2 5 rfl
   have d6:=hA2 6 rfl
   try simp (disch:=first|exact dq|fail) only [go_sem,↓reduceIte,p1,p2,p4] at d1 d2 d4 d5 d6
   have d6:=hA2 6 rfl
   simp (disch:=first|exact dq|fail) only [go_sem,↓reduceIte,r6] at d6
   have d5:=hA2 5 rfl
   simp (disch:=first|exact dq|fail) only [go_sem,↓reduceIte,r5] at d5
   have d1:=hA2 1 rfl
   simp (disch:=first|exact dq|fail) only [go_sem,↓reduceIte,pr1] at d1
   have hlt2:((k:Int)<(ts.length:Int))=True:=eq_true (by omega)
   obtain ⟨y,ey⟩:∃ y,y=ts[k]:=⟨_,rfl⟩
   have hy:ts[k]?=some y:=by rw [ey];exact List.getElem?_eq_getElem hk
   obtain ⟨hy1,hy2⟩:=ht y (List.mem_of_getElem? hy)
   obtain ⟨a,w,adw,ld,oW⟩:=(hA0.ext xh).at (show ts.length<2 ^ 60 by omega) hy
   have hw:=oW.one
   have ld0:=ld _ .refl
   have e:=fun base=>run_weaverR (base:=base) (hP.ext xh) (hS.ext xh) hc hr (oW.rows (by omega)) (by omega) hy1 hs
   rcases Bool.eq_false_or_eq_true x with qx|qx
   ·rw [qx] at r7 ex
    have hsp:=@Nat.succ_ne_zero;repeat' (first|simp (disch:=first|exact dq|fail) only [go_sem,↓reduceIte,hsp,r8,r7,d1,d5,d6,d1,d2,d4,d5,d6,p1,p2,p4,hlt2,hnK,g1K,adw,ld0,e]|refine WP_drw ?_|refine cnd_intro (fun hsp=>?_) fun hsp=>?_)
    refine ⟨agq,by omega,?_⟩
    rw [all_take_succ _ hy,← Bool.and_assoc,← ex,Bool.true_and]
    exact ⟨_,rfl,rfl⟩
   ·rw [qx] at r7 ex
    have r:wvsB L ts s=false:=by
     unfold wvsB
     rcases Bool.eq_false_or_eq_true s.bad with qb|qb
     ·rw [qb,Bool.true_and] at ex ⊢
      exact all_take_no _ ex.symm
     ·rw [qb];rfl
    have hsp:=@Nat.succ_ne_zero;repeat' (first|simp (disch:=first|exact dq|fail) only [go_sem,↓reduceIte,hsp,r8,r7,d1,d5,d6,d1,d2,d4,d5,d6,p1,p2,p4,hlt2,hnK]|refine WP_drw ?_|refine cnd_intro (fun hsp=>?_) fun hsp=>?_)
    refine ⟨agq,by omega,xK,v,rfl,?_⟩
    rw [wvsR_succ,← es,if_neg (by rw [r];decide),List.append_nil]
    exact hO
  ·rintro fr2 K' hA2 ⟨r8,eK,x,r7,ex⟩
   subst eK
   have d1:=hA2 1 rfl
   have d2:=hA2 2 rfl
   have d4:=hA2 4 rfl
   have d5:=hA2 5 rfl
   have d6:=hA2 6 rfl
   try simp (disch:=first|exact dq|fail) only [go_sem,↓reduceIte,p1,p2,p4] at d1 d2 d4 d5 d6
   have d6:=hA2 6 rfl
   simp (disch:=first|exact dq|fail) only [go_sem,↓reduceIte,r6] at d6
   have d5:=hA2 5 rfl
   simp (disch:=first|exact dq|fail) only [go_sem,↓reduceIte,r5] at d5
   have d1:=hA2 1 rfl
   simp (disch:=first|exact dq|fail) only [go_sem,↓reduceIte,pr1] at d1
   have hlt2:((ts.length:Int)<(ts.length:Int))=False:=eq_false (by omega)
   rw [List.take_length] at ex
   rcases Bool.eq_false_or_eq_true x with qx|qx
   ·rw [qx] at r7 ex
    obtain ⟨v',h',ea,hO',hle,hE,h1'⟩:=hO.append1 (y:=(i:Int)) (base:=base) (t:=36) rfl rfl Fc.el36 encI_sc (by omega) hKl (by omega)
    have hsp:=@Nat.succ_ne_zero;repeat' (first|simp (disch:=first|exact dq|fail) only [go_sem,↓reduceIte,hsp,r8,r7,d1,d5,d6,d1,d2,d4,d5,d6,p1,p2,p4,hlt2,hnK,ea]|refine WP_drw ?_|refine cnd_intro (fun hsp=>?_) fun hsp=>?_)
    refine ⟨agq,by omega,hE _ (Nat.le_refl _) xK,v',rfl,?_⟩
    rw [wvsR_succ,← es,if_pos (show wvsB L ts s=true from ex.symm)]
    exact hO'
   ·rw [qx] at r7 ex
    have hsp:=@Nat.succ_ne_zero;repeat' (first|simp (disch:=first|exact dq|fail) only [go_sem,↓reduceIte,hsp,r8,r7,d1,d5,d6,d1,d2,d4,d5,d6,p1,p2,p4,hlt2,hnK]|refine WP_drw ?_|refine cnd_intro (fun hsp=>?_) fun hsp=>?_)
    refine ⟨agq,by omega,xK,v,rfl,?_⟩
    rw [wvsR_succ,← es,if_neg (by rw [show wvsB L ts s=false from ex.symm];decide),List.append_nil]
    exact hO
 ·rintro fr K hA ⟨r6,xK,v,r5,hO⟩
  have p1:=hA 1 rfl
  have p2:=hA 2 rfl
  have p4:=hA 4 rfl
  try simp (disch:=first|exact dq|fail) only [go_sem,↓reduceIte] at p1 p2 p4
  have hlt:((L.ss.length:Int)<(L.ss.length:Int))=False:=eq_false (by omega)
  have g1K:=xK.get g1
  have l4:lenOpA prog K 30 sv=some (.int .i64 (L.ss.length:Int)):=(hS.ext (xG.trans xK)).len Fc.el30
  have hsp:=@Nat.succ_ne_zero;repeat' (first|simp (disch:=first|exact dq|fail) only [go_sem,↓reduceIte,hsp,r6,r5,p1,p2,p4,hlt,g1K,l4]|refine WP_drw ?_|refine cnd_intro (fun hsp=>?_) fun hsp=>?_)
  exact ⟨xG.trans xK,hO.low hG⟩
end Go.AM
namespace Go.AM
open Go.Proofs.Tryz
attribute [-go_sem] put_ne put_same
attribute [local go_sem ↓] put_if
theorem toN_tri {k:Int} {T:Nat} {rest:List (List Brk)}:∀ n,n≤T→2 * (frN k T rest n).length=n * (2 * T+1-n) * rest.length
 | 0,_=>by simp [frN]
 | n+1,h=>by
  have ih:=toN_tri (k:=k) (T:=T) (rest:=rest) n (by omega)
  rw [frN,List.length_append,toN_len,Nat.mul_add,ih,← Nat.mul_assoc,← Nat.add_mul]
  congr 1
  obtain ⟨d,rfl⟩:∃ d,T=n+1+d:=⟨T-(n+1),by omega⟩
  rw [show 2 * (n+1+d)+1-n=n+2 * d+3 by omega,show n+1+d-n=d+1 by omega,show 2 * (n+1+d)+1-(n+1)=n+2 * d+2 by omega]
  simp only [Nat.mul_add,Nat.add_mul,Nat.mul_one,Nat.one_mul]
  omega
theorem allR_count {T:Nat}:∀ (m k:Nat),(allR T k m).length=(T * (T+1) / 2+1) ^ m
 | 0,k=>by simp [allR]
 | m+1,k=>by
  have ih:=allR_count (T:=T) m (k+1)
  have ht:=toN_tri (k:=(k:Int)) (T:=T) (rest:=allR T (k+1) m) T (Nat.le_refl _)
  rw [show 2 * T+1-T=T+1 by omega] at ht
  have hev:2 * (T * (T+1) / 2)=T * (T+1):=by
   have:T * (T+1) % 2=0:=by
    rcases Nat.mod_two_eq_zero_or_one T with e|e
    ·rw [Nat.mul_mod,e,Nat.zero_mul]
    ·rw [Nat.mul_mod,show (T+1) % 2=0 by omega,Nat.mul_zero]
   omega
  rw [← hev,Nat.mul_assoc] at ht
  rw [allR,List.length_append,Nat.pow_succ,← ih,Nat.mul_add,Nat.mul_one,Nat.mul_comm (allR T (k+1) m).length]
  omega
theorem waysN_nat {L:Lom} {T:Nat} (e:L.T=(T:Int)) (m k:Nat):waysN L m=((allR T k m).length:Int):=by
 rw [allR_count]
 unfold waysN
 rw [e,Int.tdiv_eq_ediv_of_nonneg (by exact Int.mul_nonneg (by omega) (by omega))]
 push_cast
 rfl
def trsR (L:Lom):List (List Brk):=(allR L.T.toNat 0 L.ps.length).filter (xplM L)
theorem allR_ok {L:Lom} (hc:chkM L=0) {t:List Brk}:t ∈ allR L.T.toNat 0 L.ps.length ↔ truOk L t:=by
 obtain ⟨k1,k2,_⟩:=chkM_ok hc
 rw [allR_mem]
 unfold truOk brkOk
 refine and_congr_right fun _=>forall_congr' fun b=>imp_congr_right fun _=>?_
 constructor
 ·intro h;omega
 ·intro h;omega
theorem trsR_mem {L:Lom} (hc:chkM L=0) {t:List Brk}:t ∈ trsR L ↔ XpA L t:=by
 unfold trsR
 rw [List.mem_filter,allR_ok hc,xplM_iff hc]
 exact ⟨fun h=>h.2,fun h=>⟨h.1,h⟩⟩
def finM (L:Lom) (p:Int):Int × Int:=if chkM L ≠ 0 then (0,chkM L) else if ¬ (0≤p∧p≤1000) then (0,3) else if (wvrM L).2 ≠ 0 then (0,(wvrM L).2) else (p * ((wvrM L).1.length:Int),0)
theorem wvrM_len {L:Lom}:(wvrM L).1.length≤(deskA L).1.length:=by
 unfold wvrM
 split
 ·simp
 ·exact selN_len _
set_option maxHeartbeats 1000000 in
theorem run_fine {base:Nat} {h:Heap} {v:AVal} {L:Lom} {p:Int} (hL:LomAt h v L) (hok:LomOk L) :
  callL prog raw base (.fn 40 [] []) [v,.int .i64 p] h=some (.tuple [.int .i64 (finM L p).1,.int .i64 (finM L p).2],h):=by
 have x1:∀ {a:ABlk},Ext h (h++[a]):=fun {a}=>.app .refl
 have ck:∀ {base:Nat} {a:ABlk},callL prog raw base (.fn 59 [] []) [v] (h++[a])=some (.int .i64 (chkM L),h++[a]):=fun {base a}=>run_check' (hL.ext x1) hok
 obtain ⟨pv,sv,rfl,hP,hS⟩:=id hL
 obtain ⟨_,H2,e2,y2,u,rfl,oU⟩:=run_weavers (base:=h.length) (h:=h++[(⟨.cells [.int .i64 L.R,.int .i64 L.T,pv,sv] 25 false false,0⟩:ABlk)]) (by simp) (hL.ext x1) hok
 have hu:=oU.one
 have xx:=x1.trans y2
 have hh:=xx.len
 by_cases c1:chkM L=0
 ·have t1:(chkM L=0)=True:=eq_true c1
  obtain ⟨k1,k2,k3,k4,k5,k6⟩:=chkM_ok c1
  rw [c1] at ck
  by_cases c2:0≤p∧p≤1000
  ·have t2:(0≤p∧p≤1000)=True:=eq_true c2
   by_cases c3:(wvrM L).2=0
   ·have t3:((wvrM L).2=0)=True:=eq_true c3
    have r:finM L p=(p * ((wvrM L).1.length:Int),0):=by unfold finM;rw [if_neg (by simp [c1]),if_neg (fun q=>q c2),if_neg (by simp [c3])]
    have wl:=wvrM_len (L:=L)
    have dl:=(deskL_A c1 hok).2.1
    have lu:=own_len oU Fc.el36 (by omega)
    rw [c3] at e2
    have mb:p * ((wvrM L).1.length:Int)≤1000 * 1000:=Int.mul_le_mul c2.2 (by omega) (by omega) (by decide)
    have m0:0≤p * ((wvrM L).1.length:Int):=Int.mul_nonneg c2.1 (by omega)
    have ml:binA prog .mul 3 (.int .i64 p) (.int .i64 ((wvrM L).1.length:Int))=some (.int .i64 (p * ((wvrM L).1.length:Int))):=by rw [bin_mul,wrap64 (by omega) (by omega)]
    rw [r]
    refine callL_run func40 rfl rfl ?_
    have hsp:=@Nat.succ_ne_zero;repeat' (first|simp (disch:=first|exact dq|fail) only [go_sem,↓reduceIte,hsp,ck,t2,e2,lu,ml,eq_self,not_true,decide_false]|refine WP_drw ?_|refine cnd_intro (fun hsp=>?_) fun hsp=>?_)
    exact fII rfl rfl xx
   ·have t3:((wvrM L).2=0)=False:=eq_false c3
    have r:finM L p=(0,(wvrM L).2):=by unfold finM;rw [if_neg (by simp [c1]),if_neg (fun q=>q c2),if_pos c3]
    rw [r]
    refine callL_run func40 rfl rfl ?_
    have hsp:=@Nat.succ_ne_zero;repeat' (first|simp (disch:=first|exact dq|fail) only [go_sem,↓reduceIte,hsp,ck,t2,e2,t3,eq_self,not_true,decide_false,not_false_iff,decide_true]|refine WP_drw ?_|refine cnd_intro (fun hsp=>?_) fun hsp=>?_)
    exact fII rfl rfl xx
  ·have t2:(0≤p∧p≤1000)=False:=eq_false c2
   have r:finM L p=(0,3):=by unfold finM;rw [if_neg (by simp [c1]),if_pos c2]
   rw [r]
   refine callL_run func40 rfl rfl ?_
   have hsp:=@Nat.succ_ne_zero;repeat' (first|simp (disch:=first|exact dq|fail) only [go_sem,↓reduceIte,hsp,ck,t2,eq_self,not_true,decide_false,not_false_iff,decide_true]|refine WP_drw ?_|refine cnd_intro (fun hsp=>?_) fun hsp=>?_)
   exact fII rfl rfl
 ·have t1:(chkM L=0)=False:=eq_false c1
  have r:finM L p=(0,chkM L):=by unfold finM;rw [if_pos c1]
  rw [r]
  refine callL_run func40 rfl rfl ?_
  have hsp:=@Nat.succ_ne_zero;repeat' (first|simp (disch:=first|exact dq|fail) only [go_sem,↓reduceIte,hsp,ck,t1,not_false_iff,decide_true]|refine WP_drw ?_|refine cnd_intro (fun hsp=>?_) fun hsp=>?_)
  exact fII rfl rfl
end Go.AM
namespace Go.AM
theorem selN_sub {l:List Int} {p:Nat→Bool}:∀ n,n≤l.length→(selN p (fun k=>l.getD k 0) n).Sublist (l.take n)
 | 0,_=>by simp [selN]
 | n+1,h=>by
  rw [selN,List.take_add_one,List.getElem?_eq_getElem (show n<l.length by omega)]
  refine (selN_sub n (by omega)).append ?_
  split
  ·rw [getD_at (show n<l.length by omega)];exact .refl _
  ·exact List.nil_sublist _
theorem wvrM_sorted {L:Lom}:(wvrM L).1.Pairwise (·<·):=by
 unfold wvrM
 split
 ·exact .nil
 ·have:=selN_sub (l:=(deskA L).1) (p:=fun k=>decide ((expA L (othF L (2 ^ k))).1=0)) _ (Nat.le_refl _)
  rw [List.take_length] at this
  exact deskA_sorted.sublist this
theorem none_of {L:Lom} (hc:chkM L=0) (h:trsR L=[]):tolE L false=7:=by
 rw [tolE_no hc fun ⟨t,ht⟩=>by have:=(trsR_mem hc).2 ht;rw [h] at this;cases this]
 rfl
theorem some_of {L:Lom} (hc:chkM L=0) (h:trsR L ≠ []):∃ t,XpA L t:=by
 obtain ⟨t,ht⟩:=List.exists_mem_of_ne_nil _ h
 exact ⟨t,(trsR_mem hc).1 ht⟩
theorem wvsR_eq {L:Lom} (hc:chkM L=0) {t:List Brk} (ht:XpA L t):wvsR L (trsR L) L.ss.length=(wvrM L).1:=by
 refine pair_ext ((upto_sorted _).filter _) wvrM_sorted fun x=>?_
 show x ∈ wvsR L (trsR L) L.ss.length ↔ _
 rw [(wvrM_mem hc ht).2]
 unfold wvsR wvsB
 rw [List.mem_filter,upto_mem,Bool.and_eq_true,List.all_eq_true]
 constructor
 ·rintro ⟨h1,h2,h3⟩
  exact ⟨⟨h1,h2⟩,fun t ht=>(wvB_iff ht.1.2).1 (h3 t ((trsR_mem hc).2 ht))⟩
 ·rintro ⟨⟨h1,h2⟩,h3⟩
  exact ⟨h1,h2,fun t ht=>(wvB_iff ((trsR_mem hc).1 ht).1.2).2 (h3 t ((trsR_mem hc).1 ht))⟩
theorem wvrM_no {L:Lom} (hc:chkM L=0) (h:trsR L=[]):wvrM L=([],7):=by
 unfold wvrM
 rw [none_of hc h]
 rfl
theorem wvrM_bad {L:Lom} (hc:chkM L ≠ 0):wvrM L=([],chkM L):=by
 unfold wvrM tolE
 rw [if_pos hc,if_pos hc]
def othR (L:Lom) (i:Int):Int:=if ¬ (0≤i∧i<(L.ss.length:Int)) then 1 else if badI L i=false then 8 else if (wvrM L).2 ≠ 0 then (wvrM L).2 else if i ∈ (wvrM L).1 then 6 else 0
theorem othM_err {L:Lom} (hc:chkM L=0) {i:Int}:(othM L i).2=othR L i∧(othR L i ≠ 0→(othM L i).1=[])∧(othR L i=0→XpA L (othM L i).1∧¬ wvT L (othM L i).1 (sgtI L i)):=by
 by_cases c1:0≤i∧i<(L.ss.length:Int)
 ·by_cases c2:badI L i=false
  ·have e:othM L i=([],8):=by unfold othM;rw [if_neg (by simp [hc]),if_neg (by rw [sgtB_iff.2 c1];simp),if_pos c2]
   have r:othR L i=8:=by unfold othR;rw [if_neg (fun q=>q c1),if_pos c2]
   rw [e,r]
   exact ⟨rfl,fun _=>rfl,fun q=>by cases q⟩
  ·have c2':badI L i=true:=by cases h:badI L i<;>simp_all
   by_cases c3:trsR L=[]
   ·have w:=wvrM_no hc c3
    have e:othM L i=([],7):=by unfold othM;rw [if_neg (by simp [hc]),if_neg (by rw [sgtB_iff.2 c1];simp),if_neg c2,none_of hc c3];rfl
    have r:othR L i=7:=by unfold othR;rw [if_neg (fun q=>q c1),if_neg c2,w];rfl
    rw [e,r]
    exact ⟨rfl,fun _=>rfl,fun q=>by cases q⟩
   ·obtain ⟨t,ht⟩:=some_of hc c3
    have w:=wvrM_mem hc ht
    have r:othR L i=if i ∈ (wvrM L).1 then 6 else 0:=by unfold othR;rw [if_neg (fun q=>q c1),if_neg c2,if_neg (by simp [w.1])]
    rcases othM_truth hc ht c1 c2' with ⟨h1,h2⟩|⟨h1,h2,h3⟩
    ·have hi:i ∈ (wvrM L).1:=(w.2 i).2 ⟨⟨c1,c2'⟩,h1⟩
     rw [r,if_pos hi,h2]
     exact ⟨rfl,fun _=>rfl,fun q=>by cases q⟩
    ·have hi:¬ i ∈ (wvrM L).1:=fun q=>h3 (((w.2 i).1 q).2 _ h2)
     rw [r,if_neg hi]
     exact ⟨h1,fun q=>absurd rfl q,fun _=>⟨h2,h3⟩⟩
 ·have e:othM L i=([],1):=by
   unfold othM
   rw [if_neg (by simp [hc]),if_pos]
   rw [Bool.eq_false_iff]
   exact fun q=>c1 (sgtB_iff.1 q)
  have r:othR L i=1:=by unfold othR;rw [if_pos c1]
  rw [e,r]
  exact ⟨rfl,fun _=>rfl,fun q=>by cases q⟩
end Go.AM
