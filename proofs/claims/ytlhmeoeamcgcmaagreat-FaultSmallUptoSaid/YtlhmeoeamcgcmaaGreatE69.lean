/-
  Contracts: sets of sights by bits, the first one of two lists; where breaks last, and which parts must break, as the reference says it.
-/
import Derived.Test.YtlhmeoeamcgcmaaGreatE67
import Derived.Test.YtlhmeoeamcgcmaaGreatW7
import Derived.Test.YtlhmeoeamcgcmaaGreatK7
set_option linter.unusedSimpArgs false
set_option linter.unusedVariables false
namespace Go.AM
open Go.Proofs.Tryz
attribute [-go_sem] put_ne put_same
attribute [local go_sem ↓] put_if
set_option maxHeartbeats 1000000 in
theorem run_sets {base:Nat} {h:Heap} {L:Lom} {pv sv:AVal} (hP:One pv) (hS:Rows encS h sv L.ss) (hl:L.ss.length≤60) :
  callL prog raw base (.fn 69 [] []) [lomV L.R L.T pv sv] h=some (.int .i64 ((2 ^ L.ss.length:Nat):Int),h):=by
 have ho2:=hS.one
 obtain ⟨G,eG⟩:∃ G,G=h++[rlB L.R L.T pv sv]:=⟨_,rfl⟩
 have xG:Ext h G:=by rw [eG];exact .app .refl
 have g1:G[h.length]?=some (rlB L.R L.T pv sv):=by rw [eG];exact get_eq rfl
 have l4:lenOpA prog G 30 sv=some (.int .i64 (L.ss.length:Int)):=(hS.ext xG).len Fc.el30
 unfold rlB at eG g1
 refine callL_run func69 rfl rfl ?_
 have hsp:=@Nat.succ_ne_zero;repeat' (first|simp (disch:=first|exact dq|fail) only [go_sem,↓reduceIte,hsp,← eG]|refine WP_drw ?_|refine cnd_intro (fun hsp=>?_) fun hsp=>?_)
 refine WP_count [(3,13)] 0 L.ss.length (Nat.zero_le _) (fun _ i fr h'=>fr 4=.int .i64 (i:Int)∧h'=G∧fr 3=.int .i64 ((2 ^ i:Nat):Int)) ?_ ?_ ?_
 ·exact ⟨by (simp (disch:=first|exact dq|fail) only [go_sem,↓reduceIte,Int.natCast_zero];first|done|rfl),rfl,by simp (disch:=first|exact dq|fail) only [go_sem,↓reduceIte];rfl⟩
 ·rintro i fr H hi0 hi hA ⟨r4,eH,r3⟩
  subst eH
  have p1:=hA 1 rfl
  have p2:=hA 2 rfl
  try simp (disch:=first|exact dq|fail) only [go_sem,↓reduceIte] at p1 p2
  have hlt:((i:Int)<(L.ss.length:Int))=True:=eq_true (by omega)
  have hp:(2:Nat) ^ (i+1)≤2 ^ 60:=Nat.pow_le_pow_right (by decide) (by omega)
  have hp2:(2:Nat) ^ (i+1)=2 * 2 ^ i:=by rw [Nat.pow_succ];omega
  have ml:binA prog .mul 3 (.int .i64 2) (.int .i64 ((2 ^ i:Nat):Int))=some (.int .i64 ((2 ^ (i+1):Nat):Int)):=by
   rw [bin_mul,wrap64 (by omega) (by omega),hp2]
   push_cast
   rfl
  have hsp:=@Nat.succ_ne_zero;repeat' (first|simp (disch:=first|exact dq|fail) only [go_sem,↓reduceIte,hsp,r4,r3,p1,p2,hlt,g1,l4,ml]|refine WP_drw ?_|refine cnd_intro (fun hsp=>?_) fun hsp=>?_)
  exact ⟨agq,by omega⟩
 ·rintro fr H hA ⟨r4,eH,r3⟩
  subst eH
  have p1:=hA 1 rfl
  have p2:=hA 2 rfl
  try simp (disch:=first|exact dq|fail) only [go_sem,↓reduceIte] at p1 p2
  have hlt:((L.ss.length:Int)<(L.ss.length:Int))=False:=eq_false (by omega)
  have hsp:=@Nat.succ_ne_zero;repeat' (first|simp (disch:=first|exact dq|fail) only [go_sem,↓reduceIte,hsp,r4,r3,p1,p2,hlt,g1,l4]|refine WP_drw ?_|refine cnd_intro (fun hsp=>?_) fun hsp=>?_)
  exact fI rfl xG
set_option maxHeartbeats 1000000 in
theorem run_first {base:Nat} {h:Heap} {av bv:AVal} {a b:List Int} (hA0:Ints h av a) (hB0:Ints h bv b) (hl:a.length≤b.length) (hl2:b.length≤1000) :
  callL prog raw base (.fn 71 [] []) [av,bv] h=some (.bool (lexB a b),h):=by
 have o1:=hA0.one
 have o2:=hB0.one
 refine callL_run func71 rfl rfl ?_
 have hsp:=@Nat.succ_ne_zero;repeat' (first|simp (disch:=first|exact dq|fail) only [go_sem,↓reduceIte,hsp]|refine WP_drw ?_|refine cnd_intro (fun hsp=>?_) fun hsp=>?_)
 refine WP_count [(4,29)] 0 a.length (Nat.zero_le _) (fun H0 i fr h'=>fr 5=.int .i64 (i:Int)∧h'=H0∧lexB a b=lexB (a.drop i) (b.drop i)) ?_ ?_ ?_
 ·exact ⟨by (simp (disch:=first|exact dq|fail) only [go_sem,↓reduceIte,Int.natCast_zero];first|done|rfl),rfl,rfl⟩
 ·rintro i fr H hi0 hi hA ⟨r5,eH,hx⟩
  subst eH
  have p0:=hA 0 rfl
  have p1:=hA 1 rfl
  try simp (disch:=first|exact dq|fail) only [go_sem,↓reduceIte] at p0 p1
  have hlt:((i:Int)<(a.length:Int))=True:=eq_true (by omega)
  have hlb:i<b.length:=by omega
  have da:a.drop i=a.getD i 0 :: a.drop (i+1):=by rw [List.drop_eq_getElem_cons hi,getD_at hi]
  have db:b.drop i=b.getD i 0 :: b.drop (i+1):=by rw [List.drop_eq_getElem_cons hlb,getD_at hlb]
  rw [da,db] at hx
  simp only [lexB] at hx
  by_cases c1:a.getD i 0=b.getD i 0
  ·have t1:(a.getD i 0=b.getD i 0)=True:=eq_true c1
   rw [if_pos c1] at hx
   have hsp:=@Nat.succ_ne_zero;repeat' (first|simp (disch:=first|exact dq|fail) only [go_sem,↓reduceIte,hsp,r5,p0,p1,hlt,t1,not_true,decide_false]|refine WP_drw ?_|refine cnd_intro (fun hsp=>?_) fun hsp=>?_)
   exact ⟨agq,by omega,hx⟩
  ·have t1:(a.getD i 0=b.getD i 0)=False:=eq_false c1
   rw [if_neg c1] at hx
   rw [hx]
   have hsp:=@Nat.succ_ne_zero;repeat' (first|simp (disch:=first|exact dq|fail) only [go_sem,↓reduceIte,hsp,r5,p0,p1,hlt,t1,not_false_iff,decide_true]|refine WP_drw ?_|refine cnd_intro (fun hsp=>?_) fun hsp=>?_)
   exact fB rfl
 ·rintro fr H hA ⟨r5,eH,hx⟩
  subst eH
  have p0:=hA 0 rfl
  have p1:=hA 1 rfl
  try simp (disch:=first|exact dq|fail) only [go_sem,↓reduceIte] at p0 p1
  have hlt:((a.length:Int)<(a.length:Int))=False:=eq_false (by omega)
  rw [List.drop_length] at hx
  simp only [lexB] at hx
  rw [hx]
  have hsp:=@Nat.succ_ne_zero;repeat' (first|simp (disch:=first|exact dq|fail) only [go_sem,↓reduceIte,hsp,r5,p0,p1,hlt]|refine WP_drw ?_|refine cnd_intro (fun hsp=>?_) fun hsp=>?_)
  exact fB rfl
theorem bits_of (s:Nat):∃ k,s / 2 ^ k=0∧(∀ j,j<k→s / 2 ^ j ≠ 0)∧∀ n,s<2 ^ n→k≤n:=by
 have key:∀ n,s / 2 ^ n=0→∃ k,s / 2 ^ k=0∧(∀ j,j<k→s / 2 ^ j ≠ 0):=by
  intro n
  induction n with
  | zero=>exact fun h=>⟨0,h,fun j hj=>by omega⟩
  | succ n ih =>
   intro h
   by_cases q:s / 2 ^ n=0
   ·exact ih q
   ·refine ⟨n+1,h,fun j hj e=>q ?_⟩
    have h1:s<2 ^ j:=by
     rcases Nat.div_eq_zero_iff.1 e with e|e
     ·exact absurd e (Nat.pos_iff_ne_zero.1 (Nat.pow_pos (by decide)))
     ·exact e
    exact Nat.div_eq_of_lt (Nat.lt_of_lt_of_le h1 (Nat.pow_le_pow_right (by decide) (by omega)))
 obtain ⟨k,h1,h2⟩:=key s (Nat.div_eq_of_lt Nat.lt_two_pow_self)
 refine ⟨k,h1,h2,fun n hn=>Nat.le_of_not_lt fun q=>h2 n q (Nat.div_eq_of_lt hn)⟩
set_option maxHeartbeats 1000000 in
theorem run_members {base n s:Nat} {h:Heap} (hb:base≤h.length) (hs:s<2 ^ n) (hn:n≤60) :
  Ret prog raw base (.fn 70 [] []) [.int .i64 (s:Int)] h (fun v H=>Ext h H∧Own encI 3 h.length H v (memS n s)):=by
 obtain ⟨k,k1,k2,k3⟩:=bits_of s
 have hk:=k3 n hs
 have e0:memS n s=memS k s:=by
  have hsk:s<2 ^ k:=by
   rcases Nat.div_eq_zero_iff.1 k1 with e|e
   ·exact absurd e (Nat.pos_iff_ne_zero.1 (Nat.pow_pos (by decide)))
   ·exact e
  obtain ⟨d,rfl⟩:∃ d,n=k+d:=⟨n-k,by omega⟩
  exact memS_more hsk
 rw [e0]
 have hsb:s<2 ^ 60:=Nat.lt_of_lt_of_le hs (Nat.pow_le_pow_right (by decide) hn)
 refine ret_raw func70 rfl (by kernel_rfl) ?_
 have hsp:=@Nat.succ_ne_zero;repeat' (first|simp (disch:=first|exact dq|fail) only [go_sem,↓reduceIte,hsp]|refine WP_drw ?_|refine cnd_intro (fun hsp=>?_) fun hsp=>?_)
 refine WP_count [(0,0),(3,17)] 0 k (Nat.zero_le _) (fun _ i fr h'=>fr 0=.int .i64 ((s / 2 ^ i:Nat):Int)∧Ext h h'∧fr 4=.int .i64 (i:Int)∧∃ v,fr 3=v∧Own encI 3 h.length h' v (memS i s)) ?_ ?_ ?_
 ·exact ⟨by simp (disch:=first|exact dq|fail) only [go_sem,↓reduceIte];simp,.refl,by (simp (disch:=first|exact dq|fail) only [go_sem,↓reduceIte,Int.natCast_zero];first|done|rfl),.slice none 0 0,by simp (disch:=first|exact dq|fail) only [go_sem,↓reduceIte],Own.nil⟩
 ·rintro i fr K hi0 hi hA ⟨r0,xK,r4,v,r3,hO⟩
  have hx2:s / 2 ^ (i+1)=s / 2 ^ i / 2:=by rw [Nat.div_div_eq_div_mul,Nat.pow_succ]
  have hxs:s / 2 ^ i≤s:=Nat.div_le_self _ _
  have hx0:=k2 i hi
  have htb:s.testBit i=decide (s / 2 ^ i % 2=1):=Nat.testBit_eq_decide_div_mod_eq
  rw [hx2]
  obtain ⟨x,ex⟩:∃ x,x=s / 2 ^ i:=⟨_,rfl⟩
  rw [← ex] at r0 hxs hx0 htb ⊢
  have hlt:((x:Int) > 0)=True:=eq_true (by omega)
  have qd:binA prog .quo 3 (.int .i64 (x:Int)) (.int .i64 2)=some (.int .i64 ((x / 2:Nat):Int)):=by
   rw [bin_quo (by decide),Int.tdiv_eq_ediv_of_nonneg (by omega),wrap64 (by omega) (by omega)]
   rfl
  have hrem:(x:Int).tmod 2=((x % 2:Nat):Int):=by rw [Int.tmod_eq_emod_of_nonneg (by omega)];rfl
  have hKl:=xK.len
  have hml:=memS_len (n:=i) (s:=s)
  by_cases c1:x % 2=1
  ·have t1:(((x % 2:Nat):Int)=1)=True:=eq_true (by omega)
   obtain ⟨v',h',ea,hO',hle,hE,h1'⟩:=hO.append1 (y:=(i:Int)) (base:=base) (t:=36) rfl rfl Fc.el36 encI_sc (by omega) hKl (by omega)
   have hsp:=@Nat.succ_ne_zero;repeat' (first|simp (disch:=first|exact dq|fail) only [go_sem,↓reduceIte,hsp,r0,r4,r3,hlt,hrem,t1,qd,ea]|refine WP_drw ?_|refine cnd_intro (fun hsp=>?_) fun hsp=>?_)
   refine ⟨agq,hE _ (Nat.le_refl _) xK,by omega,v',rfl,?_⟩
   rw [memS_succ,if_pos (by rw [htb,decide_eq_true c1])]
   exact hO'
  ·have t1:(((x % 2:Nat):Int)=1)=False:=eq_false (by omega)
   have hsp:=@Nat.succ_ne_zero;repeat' (first|simp (disch:=first|exact dq|fail) only [go_sem,↓reduceIte,hsp,r0,r4,r3,hlt,hrem,t1,qd]|refine WP_drw ?_|refine cnd_intro (fun hsp=>?_) fun hsp=>?_)
   refine ⟨agq,xK,by omega,v,rfl,?_⟩
   rw [memS_succ,if_neg (by rw [htb,decide_eq_false c1];decide),List.append_nil]
   exact hO
 ·rintro fr K hA ⟨r0,xK,r4,v,r3,hO⟩
  rw [k1] at r0
  have hlt:((0:Int) > 0)=False:=eq_false (by omega)
  have hsp:=@Nat.succ_ne_zero;repeat' (first|simp (disch:=first|exact dq|fail) only [go_sem,↓reduceIte,hsp,r0,r4,r3,hlt]|refine WP_drw ?_|refine cnd_intro (fun hsp=>?_) fun hsp=>?_)
  exact ⟨xK,hO⟩
set_option maxHeartbeats 1000000 in
theorem run_lasts {base:Nat} {h:Heap} {tv:AVal} {t:List Brk} {k x:Int} (hT:Rows encB h tv t) (htl:t.length≤1000) :
  callL prog raw base (.fn 73 [] []) [tv,.int .i64 k,.int .i64 x] h=some (.bool (lstB t k x),h):=by
 have ho3:=hT.one
 have hl:=hT.len (P:=prog) Fc.el66
 refine callL_run func73 rfl rfl ?_
 have hsp:=@Nat.succ_ne_zero;repeat' (first|simp (disch:=first|exact dq|fail) only [go_sem,↓reduceIte,hsp]|refine WP_drw ?_|refine cnd_intro (fun hsp=>?_) fun hsp=>?_)
 refine WP_count [(6,35)] 0 t.length (Nat.zero_le _) (fun H0 i fr h'=>fr 7=.int .i64 (i:Int)∧h'=H0∧((t.take i).any fun b=>decide (b.1=k∧b.2.1≤x∧x≤b.2.2))=false) ?_ ?_ ?_
 ·exact ⟨by (simp (disch:=first|exact dq|fail) only [go_sem,↓reduceIte,Int.natCast_zero];first|done|rfl),rfl,by simp⟩
 ·rintro i fr H hi0 hi hA ⟨r7,eH,hno⟩
  subst eH
  have p0:=hA 0 rfl
  have p1:=hA 1 rfl
  have p2:=hA 2 rfl
  try simp (disch:=first|exact dq|fail) only [go_sem,↓reduceIte] at p0 p1 p2
  have hlt:((i:Int)<(t.length:Int))=True:=eq_true (by omega)
  obtain ⟨b,eb⟩:∃ b,b=t.getD i brk0:=⟨_,rfl⟩
  have hx:t[i]?=some b:=by rw [eb];exact getD_some hi
  have ad:=brkAddr hT hi
  have f1:fieldAddrA prog 128 (elAdr tv encB.z i 0) 0=some (elAdr tv encB.z i 0):=elAdr_field (P:=prog) (i:=i) (o:=0) (off:=0) (q:=false) (n:=1) hT (by omega) (by kernel_rfl) (by decide)
  have f2:fieldAddrA prog 128 (elAdr tv encB.z i 0) 1=some (elAdr tv encB.z i 1):=elAdr_field (P:=prog) (i:=i) (o:=0) (off:=1) (q:=false) (n:=1) hT (by omega) (by kernel_rfl) (by decide)
  have f3:fieldAddrA prog 128 (elAdr tv encB.z i 0) 2=some (elAdr tv encB.z i 2):=elAdr_field (P:=prog) (i:=i) (o:=0) (off:=2) (q:=false) (n:=1) hT (by omega) (by kernel_rfl) (by decide)
  have l1:loadP prog H 3 (elAdr tv encB.z i 0)=some (.int .i64 b.1):=hT.cell (P:=prog) Fc.ty3 hx (o:=0) (a:=.int .i64 b.1) rfl
  have l2:loadP prog H 3 (elAdr tv encB.z i 1)=some (.int .i64 b.2.1):=hT.cell (P:=prog) Fc.ty3 hx (o:=1) (a:=.int .i64 b.2.1) rfl
  have l3:loadP prog H 3 (elAdr tv encB.z i 2)=some (.int .i64 b.2.2):=hT.cell (P:=prog) Fc.ty3 hx (o:=2) (a:=.int .i64 b.2.2) rfl
  by_cases c1:b.1=k
  ·have t1:(b.1=k)=True:=eq_true c1
   by_cases c2:b.2.1≤x∧x≤b.2.2
   ·have t2:(x<b.2.1 ∨ x > b.2.2)=False:=eq_false (by omega)
    have r:lstB t k x=true:=List.any_eq_true.2 ⟨b,List.mem_of_getElem? hx,decide_eq_true ⟨c1,c2⟩⟩
    rw [r]
    have hsp:=@Nat.succ_ne_zero;repeat' (first|simp (disch:=first|exact dq|fail) only [go_sem,↓reduceIte,hsp,r7,p0,p1,p2,hlt,hl,ad,f1,f2,f3,l1,l2,l3,t1,t2,run_off,decide_true,decide_false]|refine WP_drw ?_|refine cnd_intro (fun hsp=>?_) fun hsp=>?_)
    exact fB rfl
   ·have t2:(x<b.2.1 ∨ x > b.2.2)=True:=eq_true (by omega)
    have hsp:=@Nat.succ_ne_zero;repeat' (first|simp (disch:=first|exact dq|fail) only [go_sem,↓reduceIte,hsp,r7,p0,p1,p2,hlt,hl,ad,f1,f2,f3,l1,l2,l3,t1,t2,run_off,decide_true,decide_false]|refine WP_drw ?_|refine cnd_intro (fun hsp=>?_) fun hsp=>?_)
    exact ⟨agq,by omega,by rw [any_take_succ _ hx,hno,decide_eq_false (fun q=>c2 q.2)];rfl⟩
  ·have t1:(b.1=k)=False:=eq_false c1
   have hsp:=@Nat.succ_ne_zero;repeat' (first|simp (disch:=first|exact dq|fail) only [go_sem,↓reduceIte,hsp,r7,p0,p1,p2,hlt,hl,ad,f1,f2,f3,l1,l2,l3,t1,run_off,decide_true,decide_false]|refine WP_drw ?_|refine cnd_intro (fun hsp=>?_) fun hsp=>?_)
   exact ⟨agq,by omega,by rw [any_take_succ _ hx,hno,decide_eq_false (fun q=>c1 q.1)];rfl⟩
 ·rintro fr H hA ⟨r7,eH,hno⟩
  subst eH
  have p0:=hA 0 rfl
  have p1:=hA 1 rfl
  have p2:=hA 2 rfl
  try simp (disch:=first|exact dq|fail) only [go_sem,↓reduceIte] at p0 p1 p2
  have hlt:((t.length:Int)<(t.length:Int))=False:=eq_false (by omega)
  rw [List.take_length] at hno
  have r:lstB t k x=false:=hno
  rw [r]
  have hsp:=@Nat.succ_ne_zero;repeat' (first|simp (disch:=first|exact dq|fail) only [go_sem,↓reduceIte,hsp,r7,p0,p1,p2,hlt,hl]|refine WP_drw ?_|refine cnd_intro (fun hsp=>?_) fun hsp=>?_)
  exact fB rfl
def canR (ts:List (List Brk)) (k:Int) (n:Nat):List Int:=(upto n).filter fun x=>ts.any fun t=>lstB t k x
def sryR (ts:List (List Brk)) (k:Int) (n:Nat):List Int:=(upto n).filter fun x=>ts.all fun t=>lstB t k x
theorem filt_succ' {p:Int→Bool} {n:Nat}:(upto (n+1)).filter p=(upto n).filter p++(if p n=true then [(n:Int)] else []):=by
 rw [upto_succ,List.filter_append]
 congr 1
 simp only [List.filter_cons,List.filter_nil]
theorem filt_len {p:Int→Bool} {n:Nat}:((upto n).filter p).length≤n:=by
 have:=List.length_filter_le p (upto n)
 rwa [upto_len] at this
set_option maxHeartbeats 4000000 in
theorem run_lasting {base:Nat} {h:Heap} {L:Lom} {pv sv av:AVal} {ts:List (List Brk)} {q:Int} (hb:base≤h.length) (hp1:One pv) (hs1:One sv) (hT12:1≤L.T∧L.T≤12) (hA0:AllAt 0 h av ts) (hl:ts.length≤3000) (ht:∀ t ∈ ts,t.length≤6) :
  Ret prog raw base (.fn 20 [] []) [lomV L.R L.T pv sv,av,.int .i64 q] h (fun v H=>Ext h H∧∃ x y,v=.tuple [x,y]∧Own encI 3 0 H x (canR ts q L.T.toNat)∧Own encI 3 0 H y (sryR ts q L.T.toNat)):=by
 have ho3:=hA0.one
 obtain ⟨n,en⟩:∃ n,n=L.T.toNat:=⟨_,rfl⟩
 have en2:L.T=(n:Int):=by omega
 rw [← en]
 rw [en2] at hT12 ⊢
 obtain ⟨G,eG⟩:∃ G,G=h++[rlB L.R (n:Int) pv sv]:=⟨_,rfl⟩
 have xG:Ext h G:=by rw [eG];exact .app .refl
 have hG:=xG.len
 have g1:G[h.length]?=some (rlB L.R (n:Int) pv sv):=by rw [eG];exact get_eq rfl
 unfold rlB at eG g1
 refine ret_raw func20 rfl (by kernel_rfl) ?_
 have hsp:=@Nat.succ_ne_zero;repeat' (first|simp (disch:=first|exact dq|fail) only [go_sem,↓reduceIte,hsp,← eG]|refine WP_drw ?_|refine cnd_intro (fun hsp=>?_) fun hsp=>?_)
 refine WP_count [(8,51)] 0 n (Nat.zero_le _) (fun _ i fr h'=>fr 10=.int .i64 (i:Int)∧Ext G h'∧∃ v w,fr 8=v∧fr 9=w∧Own encI 3 G.length h' v (canR ts q i)∧Own encI 3 G.length h' w (sryR ts q i)∧Asun v w) ?_ ?_ ?_
 ·exact ⟨by (simp (disch:=first|exact dq|fail) only [go_sem,↓reduceIte,Int.natCast_zero];first|done|rfl),.refl,.slice none 0 0,.slice none 0 0,by simp (disch:=first|exact dq|fail) only [go_sem,↓reduceIte],by simp (disch:=first|exact dq|fail) only [go_sem,↓reduceIte],Own.nil,Own.nil,Asun.nil⟩
 ·rintro i fr K hi0 hi hA ⟨r10,xK,v,w,r8,r9,hO,hW,hvw⟩
  have p1:=hA 1 rfl
  have p2:=hA 2 rfl
  have p3:=hA 3 rfl
  have p6:=hA 6 rfl
  have p7:=hA 7 rfl
  try simp (disch:=first|exact dq|fail) only [go_sem,↓reduceIte] at p1 p2 p3 p6 p7
  have hlt:((i:Int)<(n:Int))=True:=eq_true (by omega)
  have xh:=xG.trans xK
  have hKl:=xK.len
  have hhK:=xh.len
  have g1K:=xK.get g1
  have hnK:=(hA0.ext xh).len (show ts.length<2 ^ 60 by omega)
  have hv1:=hO.one
  have hw1:=hW.one
  have hsp:=@Nat.succ_ne_zero;repeat' (first|simp (disch:=first|exact dq|fail) only [go_sem,↓reduceIte,hsp,r10,r8,r9,p1,p2,p3,p6,p7,hlt,g1K]|refine WP_drw ?_|refine cnd_intro (fun hsp=>?_) fun hsp=>?_)
  refine WP_count [(11,41)] 0 ts.length (Nat.zero_le _) (fun _ k fr h'=>fr 13=.int .i64 (k:Int)∧h'=K∧fr 11=.bool ((ts.take k).any fun t=>lstB t q (i:Int))∧fr 12=.bool ((ts.take k).all fun t=>lstB t q (i:Int))) ?_ ?_ ?_
  ·exact ⟨by (simp (disch:=first|exact dq|fail) only [go_sem,↓reduceIte,Int.natCast_zero];first|done|rfl),rfl,by simp (disch:=first|exact dq|fail) only [go_sem,↓reduceIte];simp,by simp (disch:=first|exact dq|fail) only [go_sem,↓reduceIte];simp⟩
  ·rintro k fr2 K' hk0 hk hA2 ⟨r13,eK,r11,r12⟩
   subst eK
   have d1:=hA2 1 rfl
   have d2:=hA2 2 rfl
   have d3:=hA2 3 rfl
   have d6:=hA2 6 rfl
   have d7:=hA2 7 rfl
   have d8:=hA2 8 rfl
   have d9:=hA2 9 rfl
   have d10:=hA2 10 rfl
   try simp (disch:=first|exact dq|fail) only [go_sem,↓reduceIte,p1,p2,p3,p6,p7] at d1 d2 d3 d6 d7 d8 d9 d10
   have d10:=hA2 10 rfl
   simp (disch:=first|exact dq|fail) only [go_sem,↓reduceIte,r10] at d10
   have hlt2:((k:Int)<(ts.length:Int))=True:=eq_true (by omega)
   obtain ⟨y,ey⟩:∃ y,y=ts[k]:=⟨_,rfl⟩
   have hy:ts[k]?=some y:=by rw [ey];exact List.getElem?_eq_getElem hk
   obtain ⟨a,u,adw,ld,oU⟩:=(hA0.ext xh).at (show ts.length<2 ^ 60 by omega) hy
   have hu:=oU.one
   have ld0:=ld _ .refl
   have hyl:=ht y (List.mem_of_getElem? hy)
   have e:=fun base=>run_lasts (base:=base) (k:=q) (x:=(i:Int)) (oU.rows (by omega)) (by omega)
   rw [any_take_succ _ hy,all_take_succ _ hy]
   generalize ((ts.take k).any fun t=>lstB t q (i:Int))=z1 at r11 ⊢
   generalize ((ts.take k).all fun t=>lstB t q (i:Int))=z2 at r12 ⊢
   rcases Bool.eq_false_or_eq_true z1 with q1|q1<;>rcases Bool.eq_false_or_eq_true z2 with q2|q2
   all_goals rw [q1] at r11 ⊢;rw [q2] at r12 ⊢
   all_goals have hsp:=@Nat.succ_ne_zero;repeat' (first|simp (disch:=first|exact dq|fail) only [go_sem,↓reduceIte,hsp,r13,r11,r12,d10,d1,d2,d3,d6,d7,d8,d9,d10,p1,p2,p3,p6,p7,hlt2,hnK,adw,ld0,e]|refine WP_drw ?_|refine cnd_intro (fun hsp=>?_) fun hsp=>?_)
   all_goals exact ⟨agq,by omega,rfl,rfl⟩
  ·rintro fr2 K' hA2 ⟨r13,eK,r11,r12⟩
   subst eK
   have d1:=hA2 1 rfl
   have d2:=hA2 2 rfl
   have d3:=hA2 3 rfl
   have d6:=hA2 6 rfl
   have d7:=hA2 7 rfl
   have d8:=hA2 8 rfl
   have d9:=hA2 9 rfl
   have d10:=hA2 10 rfl
   try simp (disch:=first|exact dq|fail) only [go_sem,↓reduceIte,p1,p2,p3,p6,p7] at d1 d2 d3 d6 d7 d8 d9 d10
   have d10:=hA2 10 rfl
   simp (disch:=first|exact dq|fail) only [go_sem,↓reduceIte,r10] at d10
   have d8:=hA2 8 rfl
   simp (disch:=first|exact dq|fail) only [go_sem,↓reduceIte,r8] at d8
   have d9:=hA2 9 rfl
   simp (disch:=first|exact dq|fail) only [go_sem,↓reduceIte,r9] at d9
   have hlt2:((ts.length:Int)<(ts.length:Int))=False:=eq_false (by omega)
   rw [List.take_length] at r11 r12
   have ec:canR ts q (i+1)=canR ts q i++(if (ts.any fun t=>lstB t q (i:Int))=true then [(i:Int)] else []):=filt_succ'
   have es:sryR ts q (i+1)=sryR ts q i++(if (ts.all fun t=>lstB t q (i:Int))=true then [(i:Int)] else []):=filt_succ'
   have l1:(canR ts q i).length≤i:=filt_len
   have l2:(sryR ts q i).length≤i:=filt_len
   have a1:=app_sn1 (P:=prog) (y:=(i:Int)) (base:=base) (t:=36) hO rfl rfl Fc.el36 encI_sc (by omega) (by omega)
   have a2:=app_sn1 (P:=prog) (y:=(i:Int)) (base:=base) (t:=36) hW rfl rfl Fc.el36 encI_sc (by omega) (by omega)
   have hO':=Own.sn (m:=[(i:Int)]) hO hKl (by simp)
   have hW':=Own.sn (m:=[(i:Int)]) hW hKl (by simp)
   have hW1:Own encI 3 G.length (snH encI 3 K' v (canR ts q i) [(i:Int)]) w (sryR ts q i):=hW.sn_oth hvw
   have hO1:Own encI 3 G.length (snH encI 3 K' w (sryR ts q i) [(i:Int)]) v (canR ts q i):=hO.sn_oth hvw.symm
   have xv:Ext G (snH encI 3 K' v (canR ts q i) [(i:Int)]):=hO.sn_ext (Nat.le_refl _) xK
   have xw:Ext G (snH encI 3 K' w (sryR ts q i) [(i:Int)]):=hW.sn_ext (Nat.le_refl _) xK
   have o1:One (snV K' v 1):=snV_one
   have o2:One (snV K' w 1):=snV_one
   have v1:Asun (snV K' v 1) w:=hW.sn_asun hvw
   have v2:Asun v (snV K' w 1):=(hO.sn_asun hvw.symm).symm
   have a3:=app_sn1 (P:=prog) (y:=(i:Int)) (base:=base) (t:=36) hW1 rfl rfl Fc.el36 encI_sc (by omega) (by omega)
   have hW2:=Own.sn (m:=[(i:Int)]) hW1 xv.len (by simp)
   have hO2:Own encI 3 G.length (snH encI 3 (snH encI 3 K' v (canR ts q i) [(i:Int)]) w (sryR ts q i) [(i:Int)]) (snV K' v 1) (canR ts q i++[(i:Int)]):=hO'.sn_oth v1.symm
   have v3:Asun (snV K' v 1) (snV (snH encI 3 K' v (canR ts q i) [(i:Int)]) w 1):=(hO'.sn_asun v1.symm).symm
   have xvw:Ext G (snH encI 3 (snH encI 3 K' v (canR ts q i) [(i:Int)]) w (sryR ts q i) [(i:Int)]):=hW1.sn_ext (Nat.le_refl _) xv
   rw [ec,es]
   generalize (ts.any fun t=>lstB t q (i:Int))=z1 at r11 ⊢
   generalize (ts.all fun t=>lstB t q (i:Int))=z2 at r12 ⊢
   rcases Bool.eq_false_or_eq_true z1 with q1|q1<;>rcases Bool.eq_false_or_eq_true z2 with q2|q2
   all_goals rw [q1] at r11 ⊢;rw [q2] at r12 ⊢
   all_goals have hsp:=@Nat.succ_ne_zero;repeat' (first|simp (disch:=first|exact dq|fail) only [go_sem,↓reduceIte,hsp,r13,r11,r12,d8,d9,d10,d1,d2,d3,d6,d7,d8,d9,d10,p1,p2,p3,p6,p7,hlt2,hnK,a1,a2,a3,o1,o2]|refine WP_drw ?_|refine cnd_intro (fun hsp=>?_) fun hsp=>?_)
   ·exact ⟨agq,by omega,xvw,_,_,rfl,rfl,hO2,hW2,v3⟩
   ·exact ⟨agq,by omega,xv,_,_,rfl,rfl,hO',hW1,v1⟩
   ·exact ⟨agq,by omega,xw,_,_,rfl,rfl,hO1,hW',v2⟩
   ·exact ⟨agq,by omega,xK,_,_,rfl,rfl,hO,hW,hvw⟩
 ·rintro fr K hA ⟨r10,xK,v,w,r8,r9,hO,hW,hvw⟩
  have p1:=hA 1 rfl
  have p2:=hA 2 rfl
  have p3:=hA 3 rfl
  have p6:=hA 6 rfl
  have p7:=hA 7 rfl
  try simp (disch:=first|exact dq|fail) only [go_sem,↓reduceIte] at p1 p2 p3 p6 p7
  have hlt:((n:Int)<(n:Int))=False:=eq_false (by omega)
  have g1K:=xK.get g1
  have hv1:=hO.one
  have hw1:=hW.one
  have hsp:=@Nat.succ_ne_zero;repeat' (first|simp (disch:=first|exact dq|fail) only [go_sem,↓reduceIte,hsp,r10,r8,r9,p1,p2,p3,p6,p7,hlt,g1K]|refine WP_drw ?_|refine cnd_intro (fun hsp=>?_) fun hsp=>?_)
  exact ⟨xG.trans xK,_,_,rfl,hO.low (Nat.zero_le _),hW.low (Nat.zero_le _)⟩
end Go.AM
