/-
  Contracts: the reference's parts at work; what a break spoils.
-/
import Derived.Test.YtlhmeoeamcgcmaaGreatE53
set_option linter.unusedSimpArgs false
set_option linter.unusedVariables false
namespace Go.AM
open Go.Proofs.Tryz
attribute [-go_sem] put_ne put_same
attribute [local go_sem ↓] put_if
theorem getD_in {α:Type} {l:List α} {d:α} {i:Nat} (h:i<l.length):l.getD i d ∈ l:=List.mem_of_getElem? (getD_some h)
theorem run_hasR {base:Nat} {h:Heap} {v:AVal} {l:List Int} {n:Int} (hI:Ints h v l) (hl:l.length≤1000):callL prog raw base (.fn 72 [] []) [v,.int .i64 n] h=some (.bool (decide (n ∈ l)),h):=by
 have ho:=hI.one
 refine callL_run func72 rfl rfl ?_
 have hsp:=@Nat.succ_ne_zero;repeat' (first|simp (disch:=first|exact dq|fail) only [go_sem,↓reduceIte,hsp]|refine WP_drw ?_|refine cnd_intro (fun hsp=>?_) fun hsp=>?_)
 refine WP_count [(4,17)] 0 l.length (Nat.zero_le _) (fun H0 i fr h'=>fr 5=.int .i64 (i:Int)∧h'=H0∧∀ j,j<i→l.getD j 0 ≠ n) ?_ ?_ ?_
 ·exact ⟨by (simp (disch:=first|exact dq|fail) only [go_sem,↓reduceIte,Int.natCast_zero];first|done|rfl),rfl,fun j hj=>by omega⟩
 ·rintro i fr H hi0 hi hA ⟨r5,eH,hno⟩
  subst eH
  have p0:=hA 0 rfl
  have p1:=hA 1 rfl
  try simp (disch:=first|exact dq|fail) only [go_sem,↓reduceIte] at p0 p1
  have hlt:((i:Int)<(l.length:Int))=True:=eq_true (by omega)
  by_cases c1:l.getD i 0=n
  ·have t1:(l.getD i 0=n)=True:=eq_true c1
   have r:decide (n ∈ l)=true:=decide_eq_true (by rw [← c1];exact getD_in hi)
   rw [r]
   have hsp:=@Nat.succ_ne_zero;repeat' (first|simp (disch:=first|exact dq|fail) only [go_sem,↓reduceIte,hsp,r5,p0,p1,hlt,t1]|refine WP_drw ?_|refine cnd_intro (fun hsp=>?_) fun hsp=>?_)
   exact fB rfl
  ·have t1:(l.getD i 0=n)=False:=eq_false c1
   have hsp:=@Nat.succ_ne_zero;repeat' (first|simp (disch:=first|exact dq|fail) only [go_sem,↓reduceIte,hsp,r5,p0,p1,hlt,t1]|refine WP_drw ?_|refine cnd_intro (fun hsp=>?_) fun hsp=>?_)
   refine ⟨agq,by omega,fun j hj=>?_⟩
   by_cases e:j=i
   ·subst e;exact c1
   ·exact hno j (by omega)
 ·rintro fr H hA ⟨r5,eH,hno⟩
  subst eH
  have p0:=hA 0 rfl
  have p1:=hA 1 rfl
  try simp (disch:=first|exact dq|fail) only [go_sem,↓reduceIte] at p0 p1
  have hlt:((l.length:Int)<(l.length:Int))=False:=eq_false (by omega)
  have r:decide (n ∈ l)=false:=decide_eq_false fun hm=>by
   obtain ⟨j,hj,e⟩:=List.getElem_of_mem hm
   exact hno j hj (by rw [getD_at hj];exact e)
  rw [r]
  have hsp:=@Nat.succ_ne_zero;repeat' (first|simp (disch:=first|exact dq|fail) only [go_sem,↓reduceIte,hsp,r5,p0,p1,hlt]|refine WP_drw ?_|refine cnd_intro (fun hsp=>?_) fun hsp=>?_)
  exact fB rfl
def wks (p:Prt) (x:Int × Int):Bool:=decide (x.2.tmod p.each=p.ph∧x.1 ∈ p.rib)
theorem run_works {base:Nat} {h:Heap} {w:AVal} {p:Prt} {r t:Int} (hI:Ints h w p.rib) (hl:p.rib.length≤1000) (he:1≤p.each∧p.each≤4) (ht:0≤t∧t≤1000) :
  callL prog raw base (.fn 155 [] []) [.agg [w,.int .i64 p.each,.int .i64 p.ph,.bool p.wv],.agg [.int .i64 r,.int .i64 t]] h=some (.bool (wks p (r,t)),h):=by
 have ho:=hI.one
 have e:∀ {base:Nat} {T:Heap} {n:Int},callL prog raw base (.fn 72 [] []) [w,.int .i64 n] (h++T)=some (.bool (decide (n ∈ p.rib)),h++T):=fun {base T n}=>run_hasR hI.app hl
 have e2:∀ {base:Nat} {a b:ABlk} {n:Int},callL prog raw base (.fn 72 [] []) [w,.int .i64 n] (h++[a]++[b])=some (.bool (decide (n ∈ p.rib)),h++[a]++[b]):=fun {base a b n}=>by rw [List.append_assoc];exact e
 have hrem:binA prog .rem 3 (.int .i64 t) (.int .i64 p.each)=some (.int .i64 (t.tmod p.each)):=bin_rem (by omega)
 refine callL_run func155 rfl rfl ?_
 by_cases c1:t.tmod p.each=p.ph
 ·have t1:(t.tmod p.each=p.ph)=True:=eq_true c1
  have hsp:=@Nat.succ_ne_zero;repeat' (first|simp (disch:=first|exact dq|fail) only [go_sem,↓reduceIte,hsp,hrem,t1,e2]|refine WP_drw ?_|refine cnd_intro (fun hsp=>?_) fun hsp=>?_)
  refine fB ?_
  simp [wks,c1]
 ·have t1:(t.tmod p.each=p.ph)=False:=eq_false c1
  have hsp:=@Nat.succ_ne_zero;repeat' (first|simp (disch:=first|exact dq|fail) only [go_sem,↓reduceIte,hsp,hrem,t1]|refine WP_drw ?_|refine cnd_intro (fun hsp=>?_) fun hsp=>?_)
  refine fB ?_
  simp [wks,c1]
theorem run_brokenR {base:Nat} {h:Heap} {L:Lom} {pv sv:AVal} {b:Int × Int × Int} (hP:Parts h pv L.ps) (hS:One sv) (hl:L.ps.length≤1000) (hT:-1000≤L.T∧L.T≤1000):callL prog raw base (.fn 101 [] []) [lomV L.R L.T pv sv,.agg (encB.cells b)] h=some (.int .i64 (brkM L b),h):=by
 have ho:=hP.one
 have hn:∀ {a c:ABlk},lenOpA prog (h++[a]++[c]) 29 pv=some (.int .i64 (L.ps.length:Int)):=fun {a c}=>(hP.ext (.app (.app .refl))).lenR
 simp only [encB]
 refine callL_run func101 rfl rfl ?_
 by_cases c1:0≤b.1∧b.1≤(L.ps.length:Int)-1
 ·have t1:(b.1<0 ∨ b.1 > (L.ps.length:Int)-1)=False:=eq_false (by omega)
  by_cases c2:0≤b.2.1∧b.2.1≤L.T-1
  ·have t2:(b.2.1<0 ∨ b.2.1 > L.T-1)=False:=eq_false (by omega)
   by_cases c3:0≤b.2.2∧b.2.2≤L.T-1
   ·have t3:(b.2.2<0 ∨ b.2.2 > L.T-1)=False:=eq_false (by omega)
    by_cases c4:b.2.1 > b.2.2
    ·have t4:(b.2.1 > b.2.2)=True:=eq_true c4
     have r:brkM L b=3:=by unfold brkM;rw [if_neg (fun q=>q c1),if_pos (.inr (.inr c4))]
     rw [r]
     have hsp:=@Nat.succ_ne_zero;repeat' (first|simp (disch:=first|exact dq|fail) only [go_sem,↓reduceIte,hsp,run_off,hn,t1,t2,t3,t4]|refine WP_drw ?_|refine cnd_intro (fun hsp=>?_) fun hsp=>?_)
     exact fI rfl
    ·have t4:(b.2.1 > b.2.2)=False:=eq_false c4
     have r:brkM L b=0:=by unfold brkM;rw [if_neg (fun q=>q c1),if_neg (by rintro (q|q|q);exact q c2;exact q c3;exact c4 q)]
     rw [r]
     have hsp:=@Nat.succ_ne_zero;repeat' (first|simp (disch:=first|exact dq|fail) only [go_sem,↓reduceIte,hsp,run_off,hn,t1,t2,t3,t4]|refine WP_drw ?_|refine cnd_intro (fun hsp=>?_) fun hsp=>?_)
     exact fI rfl
   ·have t3:(b.2.2<0 ∨ b.2.2 > L.T-1)=True:=eq_true (by omega)
    have r:brkM L b=3:=by unfold brkM;rw [if_neg (fun q=>q c1),if_pos (.inr (.inl c3))]
    rw [r]
    have hsp:=@Nat.succ_ne_zero;repeat' (first|simp (disch:=first|exact dq|fail) only [go_sem,↓reduceIte,hsp,run_off,hn,t1,t2,t3]|refine WP_drw ?_|refine cnd_intro (fun hsp=>?_) fun hsp=>?_)
    exact fI rfl
  ·have t2:(b.2.1<0 ∨ b.2.1 > L.T-1)=True:=eq_true (by omega)
   have r:brkM L b=3:=by unfold brkM;rw [if_neg (fun q=>q c1),if_pos (.inl c2)]
   rw [r]
   have hsp:=@Nat.succ_ne_zero;repeat' (first|simp (disch:=first|exact dq|fail) only [go_sem,↓reduceIte,hsp,run_off,hn,t1,t2]|refine WP_drw ?_|refine cnd_intro (fun hsp=>?_) fun hsp=>?_)
   exact fI rfl
 ·have t1:(b.1<0 ∨ b.1 > (L.ps.length:Int)-1)=True:=eq_true (by omega)
  have r:brkM L b=1:=by unfold brkM;rw [if_pos c1]
  rw [r]
  have hsp:=@Nat.succ_ne_zero;repeat' (first|simp (disch:=first|exact dq|fail) only [go_sem,↓reduceIte,hsp,run_off,hn,t1]|refine WP_drw ?_|refine cnd_intro (fun hsp=>?_) fun hsp=>?_)
  exact fI rfl
def splR (L:Lom) (b:Int × Int × Int) (x:Int × Int):Bool:=decide (b.2.1≤x.2∧x.2≤b.2.2) && wks (L.ps.getD b.1.toNat prt0) x
theorem run_spoilsR {base:Nat} {h:Heap} {L:Lom} {pv sv:AVal} {b:Int × Int × Int} {r t:Int} (hP:Parts h pv L.ps) (hS:One sv) (hc:chkM L=0) (hr:∀ p ∈ L.ps,p.rib.length≤1000) (hb:0≤b.1∧b.1<(L.ps.length:Int)) (ht:0≤t∧t≤1000) :
  callL prog raw base (.fn 143 [] []) [lomV L.R L.T pv sv,.agg (encB.cells b),.agg [.int .i64 r,.int .i64 t]] h=some (.bool (splR L b (r,t)),h):=by
 have ho:=hP.one
 obtain ⟨k1,k2,k3,k4,k5,k6⟩:=chkM_ok hc
 obtain ⟨k,ek⟩:=Int.eq_ofNat_of_zero_le hb.1
 obtain ⟨q,eq⟩:∃ q,q=L.ps.getD b.1.toNat prt0:=⟨_,rfl⟩
 have hq:L.ps[k]?=some q:=by rw [eq,show b.1.toNat=k by omega];exact getD_some (by omega)
 have hqm:=List.mem_of_getElem? hq
 have k5q:=k5 q hqm
 have hql:=hr q hqm
 obtain ⟨a,w,ad,ld,hI⟩:=hP.atR hq
 have hw:=hI.one
 have d3:∀ {a1 a2 a3:ABlk},loadP prog (h++[a1]++[a2]++[a3]) 125 a=some (.agg [w,.int .i64 q.each,.int .i64 q.ph,.bool q.wv]):=fun {a1 a2 a3}=>ld _ (.app (.app (.app .refl)))
 have e3:∀ {base:Nat} {a1 a2 a3:ABlk} {r:Int},callL prog raw base (.fn 155 [] []) [.agg [w,.int .i64 q.each,.int .i64 q.ph,.bool q.wv],.agg [.int .i64 r,.int .i64 t]] (h++[a1]++[a2]++[a3])=some (.bool (wks q (r,t)),h++[a1]++[a2]++[a3]):=fun {base a1 a2 a3 r}=>run_works (hI.ext (.app (.app (.app .refl)))) hql k5q.2.1 ht
 unfold splR
 rw [← eq]
 simp only [encB]
 refine callL_run func143 rfl rfl ?_
 by_cases c1:b.2.1≤t∧t≤b.2.2
 ·have t1:(t<b.2.1 ∨ t > b.2.2)=False:=eq_false (by omega)
  have hsp:=@Nat.succ_ne_zero;repeat' (first|simp (disch:=first|exact dq|fail) only [go_sem,↓reduceIte,hsp,run_off,t1,ek,ad,d3,e3]|refine WP_drw ?_|refine cnd_intro (fun hsp=>?_) fun hsp=>?_)
  refine fB ?_
  simp [c1]
 ·have t1:(t<b.2.1 ∨ t > b.2.2)=True:=eq_true (by omega)
  have hsp:=@Nat.succ_ne_zero;repeat' (first|simp (disch:=first|exact dq|fail) only [go_sem,↓reduceIte,hsp,run_off,t1]|refine WP_drw ?_|refine cnd_intro (fun hsp=>?_) fun hsp=>?_)
  refine fB ?_
  simp [c1]
theorem pair_ext:∀ {l m:List Int},l.Pairwise (·<·)→m.Pairwise (·<·)→(∀ x,x ∈ l ↔ x ∈ m)→l=m
 | [],[],_,_,_=>rfl
 | [],y :: m,_,_,h=>by have:=(h y).2 (by simp);cases this
 | x :: l,[],_,_,h=>by have:=(h x).1 (by simp);cases this
 | x :: l,y :: m,hl,hm,h=>by
  have e:x=y:=by
   have h1:=(h x).1 (by simp)
   have h2:=(h y).2 (by simp)
   rcases List.mem_cons.1 h1 with q|q
   ·exact q
   ·rcases List.mem_cons.1 h2 with r|r
    ·exact r.symm
    ·have:=List.rel_of_pairwise_cons hm q
     have:=List.rel_of_pairwise_cons hl r
     omega
  subst e
  congr 1
  refine pair_ext (List.pairwise_cons.1 hl).2 (List.pairwise_cons.1 hm).2 fun z=>⟨fun hz=>?_,fun hz=>?_⟩
  ·have:=List.rel_of_pairwise_cons hl hz
   rcases List.mem_cons.1 ((h z).1 (by simp [hz])) with q|q
   ·omega
   ·exact q
  ·have:=List.rel_of_pairwise_cons hm hz
   rcases List.mem_cons.1 ((h z).2 (by simp [hz])) with q|q
   ·omega
   ·exact q
end Go.AM
