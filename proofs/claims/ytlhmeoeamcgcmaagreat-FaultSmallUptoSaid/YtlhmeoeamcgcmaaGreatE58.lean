/-
  Contracts: the reference's truths (Touches, bad, Left, Truth).
-/
import Derived.Test.YtlhmeoeamcgcmaaGreatE54
import Derived.Test.YtlhmeoeamcgcmaaGreatWJ
import Derived.Test.YtlhmeoeamcgcmaaGreatE44
set_option linter.unusedSimpArgs false
set_option linter.unusedVariables false
namespace Go.AM
open Go.Proofs.Tryz
attribute [-go_sem] put_ne put_same
attribute [local go_sem ↓] put_if
theorem splB_splR {L:Lom} {b:Brk} {s:Sgt} (hb:brkOk L b):splB L b s=true ↔ ∃ t:Int,s.lo≤t∧t≤s.hi∧splR L b (s.rib,t)=true:=by
 rw [splB_iff hb]
 unfold tch splR wks
 simp only [Bool.and_eq_true,decide_eq_true_eq]
 constructor
 ·rintro ⟨h1,t,h2,h3,h4,h5,h6⟩;exact ⟨t,h4,h5,⟨h2,h3⟩,h6,h1⟩
 ·rintro ⟨t,h4,h5,⟨h2,h3⟩,h6,h1⟩;exact ⟨h1,t,h2,h3,h4,h5,h6⟩
def sgR (s:Sgt):Prop:=0≤s.lo∧s.lo≤1000∧s.hi≤1000
set_option maxHeartbeats 1000000 in
theorem run_touches {base:Nat} {h:Heap} {L:Lom} {pv sv:AVal} {b:Brk} {s:Sgt} (hP:Parts h pv L.ps) (hS:One sv) (hc:chkM L=0) (hr:∀ p ∈ L.ps,p.rib.length≤1000) (hb:brkOk L b) (hs:sgR s) :
  callL prog raw base (.fn 91 [] []) [lomV L.R L.T pv sv,.agg (encB.cells b),.agg (encS.cells s)] h=some (.bool (splB L b s),h):=by
 have ho:=hP.one
 obtain ⟨s1,s2,s3⟩:=hs
 obtain ⟨a,ea⟩:=Int.eq_ofNat_of_zero_le s1
 obtain ⟨n,en⟩:∃ n:Nat,n=(s.hi+1-s.lo).toNat:=⟨_,rfl⟩
 have hn:n≤1001:=by omega
 have sp:∀ {base:Nat} {H:Heap} {r t:Int},Ext h H→0≤t∧t≤1000→callL prog raw base (.fn 143 [] []) [lomV L.R L.T pv sv,.agg (encB.cells b),.agg [.int .i64 r,.int .i64 t]] H=some (.bool (splR L b (r,t)),H):=fun e ht=>run_spoilsR (hP.ext e) hS hc hr ⟨hb.1,hb.2.1⟩ ht
 simp only [encB,encS] at sp ⊢
 refine callL_run func91 rfl rfl ?_
 have hsp:=@Nat.succ_ne_zero;repeat' (first|simp (disch:=first|exact dq|fail) only [go_sem,↓reduceIte,hsp]|refine WP_drw ?_|refine cnd_intro (fun hsp=>?_) fun hsp=>?_)
 obtain ⟨G,eG⟩:∃ G,G=h++[(⟨.cells [.int .i64 L.R,.int .i64 L.T,pv,sv] 32 false false,0⟩:ABlk)]++[(⟨.cells [.int .i64 b.1,.int .i64 b.2.1,.int .i64 b.2.2] 128 false false,0⟩:ABlk)]++[(⟨.cells [.int .i64 s.rib,.int .i64 s.lo,.int .i64 s.hi,.bool s.bad] 126 false false,0⟩:ABlk)]:=⟨_,rfl⟩
 rw [← eG]
 have xG:Ext h G:=by rw [eG];exact .app (.app (.app .refl))
 have g1:G[h.length]?=some ⟨.cells [.int .i64 L.R,.int .i64 L.T,pv,sv] 32 false false,0⟩:=by rw [eG];exact get_app (get_app (get_eq rfl))
 have g2:G[h.length+1]?=some ⟨.cells [.int .i64 b.1,.int .i64 b.2.1,.int .i64 b.2.2] 128 false false,0⟩:=by rw [eG];exact get_app (get_eq (by simp))
 have g3:G[h.length+1+1]?=some ⟨.cells [.int .i64 s.rib,.int .i64 s.lo,.int .i64 s.hi,.bool s.bad] 126 false false,0⟩:=by rw [eG];exact get_eq (by simp)
 refine WP_count [(6,24)] 0 n (Nat.zero_le _) (fun _ j fr h'=>fr 7=.int .i64 ((a+j:Nat):Int)∧h'=G∧∀ i:Nat,i<j→splR L b (s.rib,((a+i:Nat):Int))=false) ?_ ?_ ?_
 ·exact ⟨by (simp (disch:=first|exact dq|fail) only [go_sem,↓reduceIte,ea];first|done|rfl),rfl,fun i hi=>by omega⟩
 ·rintro j fr H hj0 hj hA ⟨r7,eH,hno⟩
  subst eH
  have p3:=hA 3 rfl
  have p4:=hA 4 rfl
  have p5:=hA 5 rfl
  try simp (disch:=first|exact dq|fail) only [go_sem,↓reduceIte] at p3 p4 p5
  have hlt:(((a+j:Nat):Int)≤s.hi)=True:=eq_true (by omega)
  have e:=fun base=>sp (base:=base) (r:=s.rib) (t:=((a+j:Nat):Int)) xG (by omega)
  rcases Bool.eq_false_or_eq_true (splR L b (s.rib,((a+j:Nat):Int))) with c1|c1
  ·rw [c1] at e
   have r:splB L b s=true:=(splB_splR hb).2 ⟨_,by omega,by omega,c1⟩
   rw [r]
   have hsp:=@Nat.succ_ne_zero;repeat' (first|simp (disch:=first|exact dq|fail) only [go_sem,↓reduceIte,hsp,r7,p3,p4,p5,g1,g2,g3,hlt,e]|refine WP_drw ?_|refine cnd_intro (fun hsp=>?_) fun hsp=>?_)
   exact fB rfl xG
  ·rw [c1] at e
   have hsp:=@Nat.succ_ne_zero;repeat' (first|simp (disch:=first|exact dq|fail) only [go_sem,↓reduceIte,hsp,r7,p3,p4,p5,g1,g2,g3,hlt,e]|refine WP_drw ?_|refine cnd_intro (fun hsp=>?_) fun hsp=>?_)
   refine ⟨agq,by omega,fun i hi=>?_⟩
   by_cases q:i=j
   ·subst q;exact c1
   ·exact hno i (by omega)
 ·rintro fr H hA ⟨r7,eH,hno⟩
  subst eH
  have p3:=hA 3 rfl
  have p4:=hA 4 rfl
  have p5:=hA 5 rfl
  try simp (disch:=first|exact dq|fail) only [go_sem,↓reduceIte] at p3 p4 p5
  have hlt:(((a+n:Nat):Int)≤s.hi)=False:=eq_false (by omega)
  have r:splB L b s=false:=by
   rw [Bool.eq_false_iff]
   intro q
   obtain ⟨t,h1,h2,h3⟩:=(splB_splR hb).1 q
   have:=hno (t-a).toNat (by omega)
   rw [show ((a+(t-a).toNat:Nat):Int)=t by omega,h3] at this
   cases this
  rw [r]
  have hsp:=@Nat.succ_ne_zero;repeat' (first|simp (disch:=first|exact dq|fail) only [go_sem,↓reduceIte,hsp,r7,p3,p4,p5,g1,g2,g3,hlt]|refine WP_drw ?_|refine cnd_intro (fun hsp=>?_) fun hsp=>?_)
  exact fB rfl xG
theorem brkLoad {h:Heap} {tv:AVal} {t:List Brk} {i:Nat} {x:Brk} (hT:Rows encB h tv t) (hx:t[i]?=some x):loadP prog h 128 (elAdr tv encB.z i 0)=some (.agg [.int .i64 x.1,.int .i64 x.2.1,.int .i64 x.2.2]):=hT.load (P:=prog) Fc.ty128 hx
theorem brkAddr {h:Heap} {tv:AVal} {t:List Brk} {i:Nat} (hT:Rows encB h tv t) (hi:i<t.length):indexAddrA prog 66 tv (.int .i64 (i:Int))=some (elAdr tv encB.z i 0):=by
 have:=hT.addr (P:=prog) (i:=(i:Int)) Fc.el66 Fc.ar66 (by omega) (by omega)
 rwa [Int.toNat_natCast] at this
set_option maxHeartbeats 1000000 in
theorem run_badR {base:Nat} {h:Heap} {L:Lom} {pv sv tv:AVal} {t:List Brk} {s:Sgt} (hP:Parts h pv L.ps) (hS:One sv) (hc:chkM L=0) (hr:∀ p ∈ L.ps,p.rib.length≤1000) (hT:Rows encB h tv t) (htl:t.length≤1000) (ht:∀ b ∈ t,brkOk L b) (hs:sgR s) :
  callL prog raw base (.fn 102 [] []) [lomV L.R L.T pv sv,tv,.agg (encS.cells s)] h=some (.bool (badB L t s),h):=by
 have ho:=hP.one
 have ho3:=hT.one
 obtain ⟨G,eG⟩:∃ G,G=h++[(⟨.cells [.int .i64 L.R,.int .i64 L.T,pv,sv] 32 false false,0⟩:ABlk)]++[(⟨.cells [.int .i64 s.rib,.int .i64 s.lo,.int .i64 s.hi,.bool s.bad] 126 false false,0⟩:ABlk)]:=⟨_,rfl⟩
 have xG:Ext h G:=by rw [eG];exact .app (.app .refl)
 have g1:G[h.length]?=some ⟨.cells [.int .i64 L.R,.int .i64 L.T,pv,sv] 32 false false,0⟩:=by rw [eG];exact get_app (get_eq rfl)
 have g2:G[h.length+1]?=some ⟨.cells [.int .i64 s.rib,.int .i64 s.lo,.int .i64 s.hi,.bool s.bad] 126 false false,0⟩:=by rw [eG];exact get_eq (by simp)
 have tc:=fun (base:Nat) (b:Brk) (hb:b ∈ t)=>run_touches (base:=base) (s:=s) (hP.ext xG) hS hc hr (ht b hb) hs
 have hl:=(hT.ext xG).len (P:=prog) Fc.el66
 simp only [encB,encS] at tc ⊢
 refine callL_run func102 rfl rfl ?_
 have hsp:=@Nat.succ_ne_zero;repeat' (first|simp (disch:=first|exact dq|fail) only [go_sem,↓reduceIte,hsp,← eG]|refine WP_drw ?_|refine cnd_intro (fun hsp=>?_) fun hsp=>?_)
 refine WP_count [(6,20)] 0 t.length (Nat.zero_le _) (fun _ i fr h'=>fr 7=.int .i64 (i:Int)∧h'=G∧((t.take i).any fun b=>splB L b s)=false) ?_ ?_ ?_
 ·exact ⟨by (simp (disch:=first|exact dq|fail) only [go_sem,↓reduceIte,Int.natCast_zero];first|done|rfl),rfl,by simp⟩
 ·rintro i fr H hi0 hi hA ⟨r7,eH,hno⟩
  subst eH
  have p1:=hA 1 rfl
  have p3:=hA 3 rfl
  have p5:=hA 5 rfl
  try simp (disch:=first|exact dq|fail) only [go_sem,↓reduceIte] at p1 p3 p5
  have hlt:((i:Int)<(t.length:Int))=True:=eq_true (by omega)
  obtain ⟨x,ex⟩:∃ x,x=t.getD i brk0:=⟨_,rfl⟩
  have hx:t[i]?=some x:=by rw [ex];exact getD_some hi
  have ad:=brkAddr (hT.ext xG) hi
  have d1:=brkLoad (hT.ext xG) hx
  have e:=fun base=>tc base x (List.mem_of_getElem? hx)
  rcases Bool.eq_false_or_eq_true (splB L x s) with c1|c1
  ·rw [c1] at e
   have r:badB L t s=true:=List.any_eq_true.2 ⟨x,List.mem_of_getElem? hx,c1⟩
   rw [r]
   have hsp:=@Nat.succ_ne_zero;repeat' (first|simp (disch:=first|exact dq|fail) only [go_sem,↓reduceIte,hsp,r7,p1,p3,p5,hlt,hl,g1,g2,ad,d1,e]|refine WP_drw ?_|refine cnd_intro (fun hsp=>?_) fun hsp=>?_)
   exact fB rfl xG
  ·rw [c1] at e
   have hsp:=@Nat.succ_ne_zero;repeat' (first|simp (disch:=first|exact dq|fail) only [go_sem,↓reduceIte,hsp,r7,p1,p3,p5,hlt,hl,g1,g2,ad,d1,e]|refine WP_drw ?_|refine cnd_intro (fun hsp=>?_) fun hsp=>?_)
   exact ⟨agq,by omega,by rw [any_take_succ _ hx,hno,c1];rfl⟩
 ·rintro fr H hA ⟨r7,eH,hno⟩
  subst eH
  have p1:=hA 1 rfl
  have p3:=hA 3 rfl
  have p5:=hA 5 rfl
  try simp (disch:=first|exact dq|fail) only [go_sem,↓reduceIte] at p1 p3 p5
  have hlt:((t.length:Int)<(t.length:Int))=False:=eq_false (by omega)
  rw [List.take_length] at hno
  have r:badB L t s=false:=hno
  rw [r]
  have hsp:=@Nat.succ_ne_zero;repeat' (first|simp (disch:=first|exact dq|fail) only [go_sem,↓reduceIte,hsp,r7,p1,p3,p5,hlt,hl]|refine WP_drw ?_|refine cnd_intro (fun hsp=>?_) fun hsp=>?_)
  exact fB rfl xG
def lefR (L:Lom) (t:List Brk) (n:Nat):List Int:=(upto n).filter fun i=>badB L t (L.ss.getD i.toNat sgt0) != (L.ss.getD i.toNat sgt0).bad
theorem lefR_succ {L:Lom} {t:List Brk} {n:Nat}:lefR L t (n+1)=lefR L t n++(if (badB L t (L.ss.getD n sgt0) != (L.ss.getD n sgt0).bad)=true then [(n:Int)] else []):=by
 unfold lefR
 rw [upto_succ,List.filter_append]
 congr 1
 simp only [List.filter_cons,List.filter_nil,Int.toNat_natCast]
theorem lefR_len {L:Lom} {t:List Brk} {n:Nat}:(lefR L t n).length≤n:=by
 have:=List.length_filter_le (fun i:Int=>badB L t (L.ss.getD i.toNat sgt0) != (L.ss.getD i.toNat sgt0).bad) (upto n)
 rw [upto_len] at this
 exact this
theorem lefR_eq {L:Lom} {t:List Brk} (hc:chkM L=0) (ht:truM L t=0):lefR L t L.ss.length=(lftM L t).1:=by
 have hto:=truM_iff.1 ht
 have e:lftM L t=(lftN (spoS L t t.length) L.ss L.ss.length,0):=by
  unfold lftM
  rw [if_neg (by simp [hc]),if_neg (by simp [ht])]
 rw [e]
 refine pair_ext ((upto_sorted _).filter _) ((upto_sorted _).filter _) fun x=>?_
 show x ∈ lefR L t L.ss.length ↔ x ∈ lftN (spoS L t t.length) L.ss L.ss.length
 rw [lftN_mem hto]
 unfold lefR
 rw [List.mem_filter,upto_mem]
 refine and_congr_right fun hx=>?_
 rw [← badB_iff hto.2]
 unfold badI
 rw [show sgtI L x=L.ss.getD x.toNat sgt0 from rfl,← Bool.eq_iff_iff]
 simp
set_option maxHeartbeats 1000000 in
theorem run_leftR {base:Nat} {h:Heap} {L:Lom} {pv sv tv:AVal} {t:List Brk} (hb:base≤h.length) (hP:Parts h pv L.ps) (hS:Rows encS h sv L.ss) (hc:chkM L=0) (hr:∀ p ∈ L.ps,p.rib.length≤1000) (hT:Rows encB h tv t) (htl:t.length≤1000) (ht:truM L t=0) :
  Ret prog raw base (.fn 36 [] []) [lomV L.R L.T pv sv,tv] h (fun v H=>Ext h H∧Own encI 3 h.length H v (lftM L t).1):=by
 have ho:=hP.one
 have ho2:=hS.one
 have ho3:=hT.one
 have hto:=truM_iff.1 ht
 obtain ⟨k1,k2,k3,k4,k5,k6⟩:=chkM_ok hc
 rw [← lefR_eq hc ht]
 obtain ⟨G,eG⟩:∃ G,G=h++[(⟨.cells [.int .i64 L.R,.int .i64 L.T,pv,sv] 32 false false,0⟩:ABlk)]:=⟨_,rfl⟩
 have xG:Ext h G:=by rw [eG];exact .app .refl
 have hG:=xG.len
 have g1:G[h.length]?=some ⟨.cells [.int .i64 L.R,.int .i64 L.T,pv,sv] 32 false false,0⟩:=by rw [eG];exact get_eq rfl
 refine ret_raw func36 rfl (by kernel_rfl) ?_
 have hsp:=@Nat.succ_ne_zero;repeat' (first|simp (disch:=first|exact dq|fail) only [go_sem,↓reduceIte,hsp,← eG]|refine WP_drw ?_|refine cnd_intro (fun hsp=>?_) fun hsp=>?_)
 refine WP_count [(5,32)] 0 L.ss.length (Nat.zero_le _) (fun _ i fr h'=>fr 6=.int .i64 (i:Int)∧Ext G h'∧∃ v,fr 5=v∧Own encI 3 G.length h' v (lefR L t i)) ?_ ?_ ?_
 ·exact ⟨by (simp (disch:=first|exact dq|fail) only [go_sem,↓reduceIte,Int.natCast_zero];first|done|rfl),.refl,.slice none 0 0,by simp (disch:=first|exact dq|fail) only [go_sem,↓reduceIte],by simp only [lefR,upto,lst];exact Own.nil⟩
 ·rintro i fr K hi0 hi hA ⟨r6,xK,v,r5,hO⟩
  have p1:=hA 1 rfl
  have p2:=hA 2 rfl
  have p4:=hA 4 rfl
  try simp (disch:=first|exact dq|fail) only [go_sem,↓reduceIte] at p1 p2 p4
  have hlt:((i:Int)<(L.ss.length:Int))=True:=eq_true (by omega)
  have xh:=xG.trans xK
  have g1K:=xK.get g1
  have l4:lenOpA prog K 30 sv=some (.int .i64 (L.ss.length:Int)):=(hS.ext xh).len Fc.el30
  obtain ⟨s,es⟩:∃ s,s=L.ss.getD i sgt0:=⟨_,rfl⟩
  have hs:L.ss[i]?=some s:=by rw [es];exact getD_some hi
  have k6s:=k6 s (List.mem_of_getElem? hs)
  have ad:=(hS.ext xh).addr (P:=prog) (i:=(i:Int)) Fc.el30 Fc.ar30 (by omega) (by omega)
  rw [Int.toNat_natCast] at ad
  have s1:loadP prog K 126 (elAdr sv encS.z i 0)=some (.agg [.int .i64 s.rib,.int .i64 s.lo,.int .i64 s.hi,.bool s.bad]):=(hS.ext xh).load (P:=prog) Fc.ty126 hs
  have e:=fun base=>run_badR (base:=base) (s:=s) (hP.ext xh) ho2 hc hr (hT.ext xh) htl hto.2 ⟨by omega,by omega,by omega⟩
  simp only [encS] at e
  have s3:fieldAddrA prog 126 (elAdr sv encS.z i 0) 2=some (elAdr sv encS.z i 3):=elAdr_field (P:=prog) (i:=i) (o:=0) (off:=3) (q:=false) (n:=1) (hS.ext xh) (by omega) (by kernel_rfl) (by decide)
  have s4:loadP prog K 4 (elAdr sv encS.z i 3)=some (.bool s.bad):=(hS.ext xh).cell (P:=prog) Fc.ty4 hs (o:=3) (a:=.bool s.bad) rfl
  have hel:=lefR_len (L:=L) (t:=t) (n:=i)
  have hKl:=xK.len
  by_cases c1:badB L t s=s.bad
  ·have t1:(badB L t s=s.bad)=True:=eq_true c1
   have hsp:=@Nat.succ_ne_zero;repeat' (first|simp (disch:=first|exact dq|fail) only [go_sem,↓reduceIte,hsp,r6,r5,p1,p2,p4,hlt,g1K,l4,ad,s1,s3,s4,e,t1,neB,not_true,decide_false,Bool.false_eq_true]|refine WP_drw ?_|refine cnd_intro (fun hsp=>?_) fun hsp=>?_)
   refine ⟨agq,by omega,xK,v,rfl,?_⟩
   rw [lefR_succ,← es,if_neg (by simp [c1]),List.append_nil]
   exact hO
  ·have t1:(badB L t s=s.bad)=False:=eq_false c1
   obtain ⟨v',h',ea,hO',hle,hE,h1'⟩:=hO.append1 (y:=(i:Int)) (base:=base) (t:=36) rfl rfl Fc.el36 encI_sc (by omega) hKl (by omega)
   have hsp:=@Nat.succ_ne_zero;repeat' (first|simp (disch:=first|exact dq|fail) only [go_sem,↓reduceIte,hsp,r6,r5,p1,p2,p4,hlt,g1K,l4,ad,s1,s3,s4,e,t1,neB,not_false_iff,decide_true,ea]|refine WP_drw ?_|refine cnd_intro (fun hsp=>?_) fun hsp=>?_)
   refine ⟨agq,by omega,hE _ (Nat.le_refl _) xK,v',rfl,?_⟩
   rw [lefR_succ,← es,if_pos (by simp [c1])]
   exact hO'
 ·rintro fr K hA ⟨r6,xK,v,r5,hO⟩
  have p1:=hA 1 rfl
  have p2:=hA 2 rfl
  have p4:=hA 4 rfl
  try simp (disch:=first|exact dq|fail) only [go_sem,↓reduceIte] at p1 p2 p4
  have hlt:((L.ss.length:Int)<(L.ss.length:Int))=False:=eq_false (by omega)
  have g1K:=xK.get g1
  have l4:lenOpA prog K 30 sv=some (.int .i64 (L.ss.length:Int)):=(hS.ext (xG.trans xK)).len Fc.el30
  have hsp:=@Nat.succ_ne_zero;repeat' (first|simp (disch:=first|exact dq|fail) only [go_sem,↓reduceIte,hsp,r6,r5,p1,p2,p4,hlt,g1K,l4]|refine WP_drw ?_|refine cnd_intro (fun hsp=>?_) fun hsp=>?_)
  exact ⟨xG.trans xK,hO.low hG⟩
end Go.AM
namespace Go.AM
open Go.Proofs.Tryz
attribute [-go_sem] put_ne put_same
attribute [local go_sem ↓] put_if
set_option maxHeartbeats 2000000 in
theorem run_truthR {base:Nat} {h:Heap} {L:Lom} {pv sv tv:AVal} {t:List Brk} (hP:Parts h pv L.ps) (hS:One sv) (hpl:L.ps.length≤1000) (hLT:-1000≤L.T∧L.T≤1000) (hT:Rows encB h tv t) (htl:t.length≤1000) :
  callL prog raw base (.fn 34 [] []) [lomV L.R L.T pv sv,tv] h=some (.int .i64 (truM L t),h):=by
 have ho:=hP.one
 have ho3:=hT.one
 obtain ⟨G,eG⟩:∃ G,G=h++[(⟨.cells [.int .i64 L.R,.int .i64 L.T,pv,sv] 32 false false,0⟩:ABlk)]:=⟨_,rfl⟩
 have xG:Ext h G:=by rw [eG];exact .app .refl
 have g1:G[h.length]?=some ⟨.cells [.int .i64 L.R,.int .i64 L.T,pv,sv] 32 false false,0⟩:=by rw [eG];exact get_eq rfl
 have br:=fun (base:Nat) (b:Brk)=>run_brokenR (base:=base) (b:=b) (hP.ext xG) hS hpl hLT
 simp only [encB] at br
 have hTG:=hT.ext xG
 have hl:=hTG.len (P:=prog) Fc.el66
 refine callL_run func34 rfl rfl ?_
 have hsp:=@Nat.succ_ne_zero;repeat' (first|simp (disch:=first|exact dq|fail) only [go_sem,↓reduceIte,hsp,← eG]|refine WP_drw ?_|refine cnd_intro (fun hsp=>?_) fun hsp=>?_)
 refine WP_count [(4,37)] 0 t.length (Nat.zero_le _) (fun _ i fr h'=>fr 5=.int .i64 (i:Int)∧h'=G∧∀ j,j<i→errAt L t j=0) ?_ ?_ ?_
 ·exact ⟨by (simp (disch:=first|exact dq|fail) only [go_sem,↓reduceIte,Int.natCast_zero];first|done|rfl),rfl,fun j hj=>by omega⟩
 ·rintro i fr H hi0 hi hA ⟨r5,eH,hno⟩
  subst eH
  have p1:=hA 1 rfl
  have p2:=hA 2 rfl
  try simp (disch:=first|exact dq|fail) only [go_sem,↓reduceIte] at p1 p2
  have hlt:((i:Int)<(t.length:Int))=True:=eq_true (by omega)
  obtain ⟨x,ex⟩:∃ x,x=t.getD i brk0:=⟨_,rfl⟩
  have hx:t[i]?=some x:=by rw [ex];exact getD_some hi
  have ad:=brkAddr hTG hi
  have d1:=brkLoad hTG hx
  have e:=fun base=>br base x
  by_cases c1:brkM L x=0
  ·have t1:(brkM L x=0)=True:=eq_true c1
   rw [c1] at e
   have nx:∀ {f:AFrame},errAt L t i=0→∀ j,j<i+1→errAt L t j=0:=fun {f} h j hj=>by
    by_cases q:j=i
    ·subst q;exact h
    ·exact hno j (by omega)
   by_cases c0:0<i
   ·have t0:((i:Int) > 0)=True:=eq_true (by omega)
    obtain ⟨y,ey⟩:∃ y,y=t.getD (i-1) brk0:=⟨_,rfl⟩
    have hy:t[i-1]?=some y:=by rw [ey];exact getD_some (by omega)
    have ad2:indexAddrA prog 66 tv (.int .i64 ((i:Int)-1))=some (elAdr tv encB.z (i-1) 0):=by
     have:=brkAddr hTG (show i-1<t.length by omega)
     rwa [show ((i-1:Nat):Int)=(i:Int)-1 by omega] at this
    have f1:fieldAddrA prog 128 (elAdr tv encB.z i 0) 0=some (elAdr tv encB.z i 0):=elAdr_field (P:=prog) (i:=i) (o:=0) (off:=0) (q:=false) (n:=1) hTG (by omega) (by kernel_rfl) (by decide)
    have f2:fieldAddrA prog 128 (elAdr tv encB.z (i-1) 0) 0=some (elAdr tv encB.z (i-1) 0):=elAdr_field (P:=prog) (i:=i-1) (o:=0) (off:=0) (q:=false) (n:=1) hTG (by omega) (by kernel_rfl) (by decide)
    have l1:loadP prog H 3 (elAdr tv encB.z i 0)=some (.int .i64 x.1):=hTG.cell (P:=prog) Fc.ty3 hx (o:=0) (a:=.int .i64 x.1) rfl
    have l2:loadP prog H 3 (elAdr tv encB.z (i-1) 0)=some (.int .i64 y.1):=hTG.cell (P:=prog) Fc.ty3 hy (o:=0) (a:=.int .i64 y.1) rfl
    by_cases c2:x.1≤y.1
    ·have t2:(x.1≤y.1)=True:=eq_true c2
     have er:errAt L t i=4:=by unfold errAt;rw [← ex,← ey,if_neg (by simp [c1]),if_pos ⟨c0,c2⟩]
     have r:truM L t=4:=by unfold truM;rw [firstE_at (by rw [er];decide) hno hi,er]
     rw [r]
     have hsp:=@Nat.succ_ne_zero;repeat' (first|simp (disch:=first|exact dq|fail) only [go_sem,↓reduceIte,hsp,r5,p1,p2,hlt,hl,g1,ad,d1,e,t0,ad2,f1,f2,l1,l2,t2,eq_self,not_true,decide_false]|refine WP_drw ?_|refine cnd_intro (fun hsp=>?_) fun hsp=>?_)
     exact fI rfl xG
    ·have t2:(x.1≤y.1)=False:=eq_false c2
     have er:errAt L t i=0:=by unfold errAt;rw [← ex,← ey,if_neg (by simp [c1]),if_neg (fun q=>c2 q.2)]
     have hsp:=@Nat.succ_ne_zero;repeat' (first|simp (disch:=first|exact dq|fail) only [go_sem,↓reduceIte,hsp,r5,p1,p2,hlt,hl,g1,ad,d1,e,t0,ad2,f1,f2,l1,l2,t2,eq_self,not_true,decide_false]|refine WP_drw ?_|refine cnd_intro (fun hsp=>?_) fun hsp=>?_)
     exact ⟨agq,by omega,nx (f:=fr) er⟩
   ·have t0:((i:Int) > 0)=False:=eq_false (by omega)
    have er:errAt L t i=0:=by unfold errAt;rw [← ex,if_neg (by simp [c1]),if_neg (fun q=>c0 q.1)]
    have hsp:=@Nat.succ_ne_zero;repeat' (first|simp (disch:=first|exact dq|fail) only [go_sem,↓reduceIte,hsp,r5,p1,p2,hlt,hl,g1,ad,d1,e,t0,eq_self,not_true,decide_false]|refine WP_drw ?_|refine cnd_intro (fun hsp=>?_) fun hsp=>?_)
    exact ⟨agq,by omega,nx (f:=fr) er⟩
  ·have t1:(brkM L x=0)=False:=eq_false c1
   have er:errAt L t i=brkM L x:=by unfold errAt;rw [← ex,if_pos c1]
   have r:truM L t=brkM L x:=by unfold truM;rw [firstE_at (by rw [er];exact c1) hno hi,er]
   rw [r]
   have hsp:=@Nat.succ_ne_zero;repeat' (first|simp (disch:=first|exact dq|fail) only [go_sem,↓reduceIte,hsp,r5,p1,p2,hlt,hl,g1,ad,d1,e,t1,not_false_iff,decide_true]|refine WP_drw ?_|refine cnd_intro (fun hsp=>?_) fun hsp=>?_)
   exact fI rfl xG
 ·rintro fr H hA ⟨r5,eH,hno⟩
  subst eH
  have p1:=hA 1 rfl
  have p2:=hA 2 rfl
  try simp (disch:=first|exact dq|fail) only [go_sem,↓reduceIte] at p1 p2
  have hlt:((t.length:Int)<(t.length:Int))=False:=eq_false (by omega)
  have r:truM L t=0:=firstE_no hno
  rw [r]
  have hsp:=@Nat.succ_ne_zero;repeat' (first|simp (disch:=first|exact dq|fail) only [go_sem,↓reduceIte,hsp,r5,p1,p2,hlt,hl]|refine WP_drw ?_|refine cnd_intro (fun hsp=>?_) fun hsp=>?_)
  exact fI rfl xG
theorem bsBR {lit:Bool} {A:Heap} {b:Brk}:bsA prog lit A 66 1 [(0,.agg [.int .i64 b.1,.int .i64 b.2.1,.int .i64 b.2.2])]=some (.slice (some ⟨A.length,0,0⟩) 1 1,A++[rowE encB 128 [b] 0]):=by
 simp [bsA,rowOf,Fc.el66,fillA,repCells,AVal.isN,AVal.cells,splice,rowE,flat,encB]
set_option maxHeartbeats 1000000 in
theorem run_brokenL {base:Nat} {h:Heap} {tv:AVal} {t:List Brk} (hb:base≤h.length) (hT:Rows encB h tv t) (htl:t.length≤1000) :
  Ret prog raw base (.fn 35 [] []) [tv] h (fun v H=>Ext h H∧Own encB 128 h.length H v t):=by
 have ho3:=hT.one
 have hl:=hT.len (P:=prog) Fc.el60
 refine ret_raw func35 rfl (by kernel_rfl) ?_
 have hsp:=@Nat.succ_ne_zero;repeat' (first|simp (disch:=first|exact dq|fail) only [go_sem,↓reduceIte,hsp,hl]|refine WP_drw ?_|refine cnd_intro (fun hsp=>?_) fun hsp=>?_)
 refine WP_count [(3,5),(8,16)] 0 t.length (Nat.zero_le _) (fun _ i fr h'=>fr 8=.int .i64 (i:Int)∧Ext h h'∧∃ v,fr 3=v∧Own encB 128 h.length h' v (t.take i)) ?_ ?_ ?_
 ·exact ⟨by (simp (disch:=first|exact dq|fail) only [go_sem,↓reduceIte,Int.natCast_zero];first|done|rfl),.refl,.slice none 0 0,by simp (disch:=first|exact dq|fail) only [go_sem,↓reduceIte],by rw [List.take_zero];exact Own.nil⟩
 ·rintro i fr H hi0 hi hA ⟨r8,xH,v,r3,hO⟩
  have p2:=hA 2 rfl
  have p6:=hA 6 rfl
  have p7:=hA 7 rfl
  try simp (disch:=first|exact dq|fail) only [go_sem,↓reduceIte] at p2 p6 p7
  have hlt:((i:Int)<(t.length:Int))=True:=eq_true (by omega)
  have hHl:=xH.len
  obtain ⟨x,ex⟩:∃ x,x=t.getD i brk0:=⟨_,rfl⟩
  have hx:t[i]?=some x:=by rw [ex];exact getD_some hi
  have ad:=(hT.ext xH).addr (P:=prog) (i:=(i:Int)) Fc.el60 Fc.ar60 (by omega) (by omega)
  rw [Int.toNat_natCast] at ad
  have d1:loadP prog H 75 (elAdr tv encB.z i 0)=some (.agg [.int .i64 x.1,.int .i64 x.2.1,.int .i64 x.2.2]):=(hT.ext xH).load (P:=prog) Fc.ty75 hx
  have d2:∀ {T:Heap},loadP prog (H++T) 75 (elAdr tv encB.z i 0)=some (.agg [.int .i64 x.1,.int .i64 x.2.1,.int .i64 x.2.2]):=fun {T}=>(hT.ext (xH.trans (.app .refl))).load (P:=prog) Fc.ty75 hx
  have bsN:∀ {lit:Bool} {A:Heap},bsA prog lit A 66 1 [(0,.agg [.int .i64 x.1,.int .i64 x.2.1,.int .i64 x.2.2])]=some (.slice (some ⟨A.length,0,0⟩) 1 1,A++[rowE encB 128 [x] 0]):=fun {lit A}=>bsBR
  obtain ⟨v',h',ea',hO',hle,hE,h1'⟩:=(hO.ext (.app (t:=[(⟨.cells [.int .i64 x.1,.int .i64 x.2.1,.int .i64 x.2.2] 75 false false,0⟩:ABlk)]++[rowE encB 128 [x] 0]) .refl)).appendR (x:=.slice (some ⟨H.length+1,0,0⟩) 1 1) (m:=[x]) (base:=base) (t:=66) (Rows.own (by rw [← List.append_assoc];exact get_eq (by simp)) rfl (by simp)) Fc.el66 encB_sc hb (by simp;omega) (by simp) (by simp;omega)
  rw [← List.append_assoc] at ea'
  have hsp:=@Nat.succ_ne_zero;repeat' (first|simp (disch:=first|exact dq|fail) only [go_sem,↓reduceIte,hsp,r8,r3,p2,p6,p7,hlt,ad,d1,d2,bsN,ea']|refine WP_drw ?_|refine cnd_intro (fun hsp=>?_) fun hsp=>?_)
  refine ⟨agq,by omega,hE h (Nat.le_refl _) (by rw [← List.append_assoc];exact (xH.trans (.app (.app .refl)))),v',rfl,?_⟩
  rwa [show t.take i++[x]=t.take (i+1) by rw [List.take_add_one,hx];rfl] at hO'
 ·rintro fr H hA ⟨r8,xH,v,r3,hO⟩
  have p2:=hA 2 rfl
  have p6:=hA 6 rfl
  have p7:=hA 7 rfl
  try simp (disch:=first|exact dq|fail) only [go_sem,↓reduceIte] at p2 p6 p7
  have hlt:((t.length:Int)<(t.length:Int))=False:=eq_false (by omega)
  rw [List.take_length] at hO
  have hsp:=@Nat.succ_ne_zero;repeat' (first|simp (disch:=first|exact dq|fail) only [go_sem,↓reduceIte,hsp,r8,r3,p2,p6,p7,hlt]|refine WP_drw ?_|refine cnd_intro (fun hsp=>?_) fun hsp=>?_)
  exact ⟨xH,hO⟩
theorem run_dupB {base:Nat} {h:Heap} {v:AVal} {l:List Brk} (hb:base≤h.length) (hR:Rows encB h v l) (hl:l.length≤1000) :
  Ret prog raw base (.fn 43 [] []) [v] h (fun w H=>Ext h H∧OwnE encB 75 h.length H w l):=by
 have ho:=hR.one
 have hn:=hR.len Fc.el60
 refine ret_raw func43 rfl (by kernel_rfl) ?_
 by_cases hl0:l=[]
 ·subst hl0
  have ha:=fun base=>app_none (base:=base) hR Fc.el60
  have hsp:=@Nat.succ_ne_zero;repeat' (first|simp (disch:=first|exact dq|fail) only [go_sem,↓reduceIte,hsp,hn,mk_none Fc.el60,ha,List.length_nil,Int.natCast_zero]|refine WP_drw ?_|refine cnd_intro (fun hsp=>?_) fun hsp=>?_)
  exact ⟨.refl,.inr ⟨rfl,rfl⟩⟩
 ·have hl1:0<l.length:=List.length_pos_iff.2 hl0
  have hm:=mk_room (h:=h) (n:=l.length) Fc.el60 hl1 (by omega)
  have ha:=app_fill (base:=base) hR Fc.el60 rfl encB_sc rfl hb
  have hsp:=@Nat.succ_ne_zero;repeat' (first|simp (disch:=first|exact dq|fail) only [go_sem,↓reduceIte,hsp,hn,hm,ha]|refine WP_drw ?_|refine cnd_intro (fun hsp=>?_) fun hsp=>?_)
  exact ⟨.app .refl,.inl (.inr ⟨h.length,0,rfl,get_eq rfl,Nat.le_refl _,hl1⟩)⟩
theorem run_eqB0 {base:Nat} {h:Heap} {a b:AVal} {l:List Brk} (ha:Rows encB h a l) (hb:Rows encB h b l) (hl:l.length≤1000):callL prog raw base (.fn 106 [] []) [a,b] h=some (.bool true,h):=by
 have h1:=ha.len Fc.el60
 have h2:=hb.len Fc.el60
 have oa:=ha.one
 have ob:=hb.one
 refine callL_run func106 rfl rfl ?_
 have hsp:=@Nat.succ_ne_zero;repeat' (first|simp (disch:=first|exact dq|fail) only [go_sem,↓reduceIte,hsp,h1,h2]|refine WP_drw ?_|refine cnd_intro (fun hsp=>?_) fun hsp=>?_)
 refine WP_count [(4,5),(13,25)] 0 l.length (Nat.zero_le _) (fun H0 n fr h'=>fr 13=.int .i64 (n:Int)∧h'=H0) ?_ ?_ ?_
 ·exact ⟨by (simp (disch:=first|exact dq|fail) only [go_sem,↓reduceIte,Int.natCast_zero];first|done|rfl),rfl⟩
 ·rintro n fr H hn0 hn hA ⟨r13,eH⟩
  subst eH
  have p0:=hA 0 rfl
  have p1:=hA 1 rfl
  have p12:=hA 12 rfl
  try simp (disch:=first|exact dq|fail) only [go_sem,↓reduceIte] at p0 p1 p12
  have hlt:((n:Int)<(l.length:Int))=True:=eq_true (by omega)
  obtain ⟨x,ex⟩:∃ x,x=l.getD n brk0:=⟨_,rfl⟩
  have hx:l[n]?=some x:=by rw [ex];exact getD_some hn
  have a1:=ha.addr (P:=prog) (i:=(n:Int)) Fc.el60 Fc.ar60 (by omega) (by omega)
  have a2:=hb.addr (P:=prog) (i:=(n:Int)) Fc.el60 Fc.ar60 (by omega) (by omega)
  rw [Int.toNat_natCast] at a1 a2
  have d1:loadP prog H 75 (elAdr a encB.z n 0)=some (.agg [.int .i64 x.1,.int .i64 x.2.1,.int .i64 x.2.2]):=ha.load (P:=prog) Fc.ty75 hx
  have d2:loadP prog H 75 (elAdr b encB.z n 0)=some (.agg [.int .i64 x.1,.int .i64 x.2.1,.int .i64 x.2.2]):=hb.load (P:=prog) Fc.ty75 hx
  have hsp:=@Nat.succ_ne_zero;repeat' (first|simp (disch:=first|exact dq|fail) only [go_sem,↓reduceIte,hsp,r13,p0,p1,p12,hlt,a1,a2,d1,d2,Fc.ne75,eq_self,and_self,not_true,decide_false]|refine WP_drw ?_|refine cnd_intro (fun hsp=>?_) fun hsp=>?_)
  exact ⟨agq,by omega⟩
 ·rintro fr H hA ⟨r13,eH⟩
  subst eH
  have p0:=hA 0 rfl
  have p1:=hA 1 rfl
  have p12:=hA 12 rfl
  try simp (disch:=first|exact dq|fail) only [go_sem,↓reduceIte] at p0 p1 p12
  have hlt:((l.length:Int)<(l.length:Int))=False:=eq_false (by omega)
  have hsp:=@Nat.succ_ne_zero;repeat' (first|simp (disch:=first|exact dq|fail) only [go_sem,↓reduceIte,hsp,r13,p0,p1,p12,hlt]|refine WP_drw ?_|refine cnd_intro (fun hsp=>?_) fun hsp=>?_)
  exact fB rfl
theorem run_eqB {base:Nat} {h:Heap} {a b:AVal} {l:List Brk} (ha:Rows encB h a l) (hb:Rows encB h b l) (hl:l.length≤1000):callL prog raw base (.fn 47 [] []) [a,b] h=some (.bool true,h):=by
 have e:=fun base=>run_eqB0 (base:=base) ha hb hl
 refine callL_run func47 rfl rfl ?_
 have hsp:=@Nat.succ_ne_zero;repeat' (first|simp (disch:=first|exact dq|fail) only [go_sem,↓reduceIte,hsp,e]|refine WP_drw ?_|refine cnd_intro (fun hsp=>?_) fun hsp=>?_)
 exact fB rfl
end Go.AM
namespace Go.AM
open Go.Proofs.Tryz
attribute [-go_sem] put_ne put_same
attribute [local go_sem ↓] put_if
def encZ:Enc AVal:=⟨1,fun v=>[norm v],fun _=>rfl,by decide⟩
theorem encZ_sc:∀ y,(encZ.cells y).all AVal.scalar=true:=fun y=>by
 have:(norm y).scalar=true:=by unfold norm;split<;>simp_all [AVal.scalar]
 simp only [encZ,List.all_cons,this,List.all_nil]
 rfl
theorem bsZ0 {lit:Bool} {A:Heap} {v:AVal} (h1:One v) (hl:lit=false):bsA prog lit A 37 1 [(0,v)]=some (.slice (some ⟨A.length,0,0⟩) 1 1,A++[rowE encZ 66 [v] 0]):=by
 subst hl
 rcases h1 with ⟨h1,h2,h3⟩
 simp [bsA,rowOf,Fc.el37,fillA,repCells,h1,h2,h3,splice,rowE,flat,encZ,norm]
theorem snocZ {A:Heap} {w v:AVal} {vs:List AVal} {b base:Nat} (hO:Own encZ 66 b A w vs) (h1:One v) (hb:base≤b) (hbh:b≤A.length) (hl:vs.length≤10000000) :
  ∃ x A',(∀ {lit:Bool},lit=true→bsA prog lit A 37 1 [(0,v)]=some (x,A'))∧Ext A A'∧∃ w' h',appendA prog base A' 37 w x=some (w',h')∧Own encZ 66 b h' w' (vs++[v])∧A.length≤h'.length∧(∀ G,G.length≤b→Ext G A→Ext G h')∧One w'∧KeepO encZ 66 A h':=by
 have hn:=norm_one h1
 rcases h1 with ⟨q1,q2,q3⟩
 have hr:rowOf prog 37 1 [(0,v)]=some (66,1,[v]):=by
  simp [rowOf,Fc.el37,fillA,repCells,q1,q2,q3,splice]
 by_cases hbare:AVal.bare v=true
 ·obtain ⟨w',h',a1,a2,a3,a4,a5,a6⟩:=hO.append1X (P:=prog) (y:=v) (a:=v) (base:=base) (t:=37) rfl (by simp only [encZ,hn]) Fc.el37 encZ_sc hb hbh (by omega)
  refine ⟨.vals [v],A,fun {lit} hlit=>?_,.refl,w',h',a1,a2,a3,a4,a5,a6⟩
  subst hlit
  simp only [bsA,hr]
  rw [if_neg (by decide),if_pos ⟨trivial,trivial,by simp [hbare]⟩]
 ·obtain ⟨w',h',a1,a2,a3,a4,a5,a6⟩:=(hO.app (T:=[rowE encZ 66 [v] 0])).appendRX (P:=prog) (x:=.slice (some ⟨A.length,0,0⟩) 1 1) (m:=[v]) (base:=base) (t:=37) (Rows.own (get_eq rfl) rfl (by simp)) Fc.el37 encZ_sc hb (by simp;omega) (by simp) (by simp;omega)
  refine ⟨.slice (some ⟨A.length,0,0⟩) 1 1,A++[rowE encZ 66 [v] 0],fun {lit} hlit=>?_,.app .refl,w',h',a1,a2,by simp at a3;omega,fun G hG e=>a4 G hG (e.trans (.app .refl)),a5,fun i y g hy=>a6 i y (get_app g) hy⟩
  simp only [bsA,hr]
  rw [if_neg (by decide),if_neg (fun q=>hbare (by simpa using q.2.2))]
  simp [rowE,flat,encZ,hn]
def AllAt (b:Nat) (H:Heap) (v:AVal) (ts:List (List Brk)):Prop:=∃ vs:List AVal,Own encZ 66 b H v vs∧vs.length=ts.length∧∀ (i:Nat) x t,vs[i]?=some x→ts[i]?=some t→OwnE encB 128 0 H x t
section
variable {b:Nat} {H H':Heap} {v:AVal} {ts:List (List Brk)}
theorem AllAt.ext (x:AllAt b H v ts) (e:Ext H H'):AllAt b H' v ts:=by
 obtain ⟨vs,h1,h2,h3⟩:=x
 exact ⟨vs,h1.ext e,h2,fun i x t a c=>(h3 i x t a c).ext e⟩
theorem AllAt.one (x:AllAt b H v ts):One v:=by obtain ⟨vs,h1,_⟩:=x;exact h1.one
theorem AllAt.low {b':Nat} (x:AllAt b H v ts) (hb:b'≤b):AllAt b' H v ts:=by
 obtain ⟨vs,h1,h2,h3⟩:=x
 exact ⟨vs,h1.low hb,h2,h3⟩
theorem AllAt.rows (x:AllAt b H v ts) (hl:ts.length<2 ^ 60):∃ vs,Rows encZ H v vs∧vs.length=ts.length:=by
 obtain ⟨vs,h1,h2,_⟩:=x
 exact ⟨vs,h1.rows (by omega),h2⟩
theorem AllAt.len (x:AllAt b H v ts) (hl:ts.length<2 ^ 60):lenOpA prog H 37 v=some (.int .i64 (ts.length:Int)):=by
 obtain ⟨vs,h1,h2,_⟩:=x
 have:=(h1.rows (by omega)).len (P:=prog) Fc.el37
 rwa [h2] at this
theorem AllAt.at (x:AllAt b H v ts) (hl:ts.length<2 ^ 60) {i:Nat} {t:List Brk} (ht:ts[i]?=some t) :
  ∃ a w,indexAddrA prog 37 v (.int .i64 (i:Int))=some a∧(∀ K,Ext H K→loadP prog K 66 a=some w)∧OwnE encB 128 0 H w t:=by
 obtain ⟨vs,h1,h2,h3⟩:=x
 have hi:i<ts.length:=(List.getElem?_eq_some_iff.1 ht).1
 have hx:vs[i]?=some vs[i]:=List.getElem?_eq_getElem (by omega)
 have hR:=h1.rows (show vs.length<2 ^ 60 by omega)
 have ad:=hR.addr (P:=prog) (i:=(i:Int)) Fc.el37 Fc.ar37 (by omega) (by omega)
 rw [Int.toNat_natCast] at ad
 have hw:=h3 i _ _ hx ht
 refine ⟨_,_,ad,fun K e=>?_,hw⟩
 exact (hR.ext e).cell (P:=prog) Fc.ty66 hx (o:=0) (a:=vs[i]) (by simp only [encZ,norm_one hw.one];rfl)
theorem AllAt.snoc {A:Heap} {w x:AVal} {t:List Brk} {base:Nat} (y:AllAt b A w ts) (hx:OwnE encB 128 0 A x t) (hb:base≤b) (hbh:b≤A.length) (hl:ts.length≤10000000) :
  ∃ z A',(∀ {lit:Bool},lit=true→bsA prog lit A 37 1 [(0,x)]=some (z,A'))∧Ext A A'∧∃ w' h',appendA prog base A' 37 w z=some (w',h')∧AllAt b h' w' (ts++[t])∧A.length≤h'.length∧(∀ G,G.length≤b→Ext G A→Ext G h')∧One w'∧KeepO encZ 66 A h':=by
 obtain ⟨vs,h1,h2,h3⟩:=y
 obtain ⟨z,A',a1,a2,w',h',a3,a4,a5,a6,a7,a8⟩:=snocZ (base:=base) h1 hx.one hb hbh (by omega)
 refine ⟨z,A',a1,a2,w',h',a3,⟨_,a4,by simp [h2],fun i p q g1 g2=>?_⟩,a5,a6,a7,a8⟩
 by_cases hi:i<vs.length
 ·rw [List.getElem?_append_left hi] at g1
  rw [List.getElem?_append_left (by omega)] at g2
  exact a8.ownE (h3 i p q g1 g2) (by decide)
 ·rw [List.getElem?_append_right (by omega)] at g1
  rw [List.getElem?_append_right (by omega)] at g2
  have e0:i-vs.length=0:=by
   have:=(List.getElem?_eq_some_iff.1 g1).1
   simp at this;omega
  rw [e0] at g1
  rw [show i-ts.length=0 by omega] at g2
  cases g1;cases g2
  exact a8.ownE hx (by decide)
end
def addB (k f t:Int) (rest:List (List Brk)):List (List Brk):=rest.map fun x=>(k,f,t) :: x
def toN (k:Int) (f:Nat) (rest:List (List Brk)):Nat→List (List Brk)
 | 0=>[]
 | n+1=>toN k f rest n++addB k (f:Int) ((f+n:Nat):Int) rest
def frN (k:Int) (T:Nat) (rest:List (List Brk)):Nat→List (List Brk)
 | 0=>[]
 | n+1=>frN k T rest n++toN k n rest (T-n)
def allR (T:Nat):Nat→Nat→List (List Brk)
 | _,0=>[[]]
 | k,m+1=>allR T (k+1) m++frN (k:Int) T (allR T (k+1) m) T
theorem addB_len {k f t:Int} {rest:List (List Brk)}:(addB k f t rest).length=rest.length:=by simp [addB]
theorem toN_len {k:Int} {f:Nat} {rest:List (List Brk)}:∀ n,(toN k f rest n).length=n * rest.length
 | 0=>by simp [toN]
 | n+1=>by rw [toN,List.length_append,toN_len n,addB_len,Nat.succ_mul]
theorem frN_len {k:Int} {T:Nat} {rest:List (List Brk)}:∀ n,(frN k T rest n).length≤n * (T * rest.length)
 | 0=>by simp [frN]
 | n+1=>by
  have:=frN_len (k:=k) (T:=T) (rest:=rest) n
  have h2:(T-n) * rest.length≤T * rest.length:=Nat.mul_le_mul_right _ (by omega)
  rw [frN,List.length_append,toN_len,Nat.succ_mul];omega
theorem addB_take {k f t:Int} {rest:List (List Brk)} {i:Nat} {x:List Brk} (h:rest[i]?=some x):addB k f t (rest.take (i+1))=addB k f t (rest.take i)++[(k,f,t) :: x]:=by
 unfold addB
 rw [List.take_add_one,h,List.map_append]
 rfl
theorem allR_pos {T:Nat}:∀ (m k:Nat),0<(allR T k m).length
 | 0,k=>by simp [allR]
 | m+1,k=>by have:=allR_pos (T:=T) m (k+1);simp only [allR,List.length_append];omega
end Go.AM
