/-
  Contracts of package card: papers that are right, the throws that exclude a plan.
-/
import Derived.Test.YtcemgempgbjbeaaGreatU18
import Derived.Test.YtcemgempgbjbeaaGreatU8
import Derived.Test.YtcemgempgbjbeaaGreatU15
import Derived.Test.YtcemgempgbjbeaaGreatU17
import Derived.Test.YtcemgempgbjbeaaGreatU12
set_option linter.unusedSimpArgs false
set_option linter.unusedVariables false
namespace Go.AM
namespace L3
open Go.Proofs.Tryz
attribute [-go_sem] put_ne put_same
attribute [local go_sem ↓] put_if
structure PapOk (w:Nat) (l:List Int):Prop where
 hw:1≤w∧w≤8
 hn:1≤l.length∧l.length≤48
 hc:Crds w l
abbrev paB (W:Int) (v:AVal):ABlk:=⟨.cells [.int .i64 W,v] 54 false false,0⟩
abbrev dkB (W:Int) (v:AVal):ABlk:=⟨.cells [.int .i64 W,v] 268 false false,0⟩
theorem run_chk1P {base id:Nat} {h:Heap} {v:AVal} {w:Nat} {x:Int} (hg:h[id]?=some (paB (w:Int) v)) (hw:w≤8) (hx:0≤x∧x<((2 ^ w:Nat):Int)):callL prog raw base (.fn 204 [] [.ptr (some ⟨id,0,0⟩)]) [.int .i64 x] h=some (.bool true,h):=by
 have hp:=pow_lt (w:=w) (by omega)
 have e4:=fun t=>shl_bit (t:=t) (w:=w) (by omega)
 have t1:(0≤x∧x≤((2 ^ w:Nat):Int)-1)=True:=eq_true (by omega)
 refine callL_run func204 rfl rfl ?_
 have hsp:=@Nat.succ_ne_zero;repeat' (first|simp (disch:=first|exact dqb|fail) only [go_sem,↓reduceIte,hsp,hg,e4,t1]|refine WP_drw ?_|refine cnd_intro (fun hsp=>?_) fun hsp=>?_)
 exact fB rfl .refl
theorem run_checkP {base:Nat} {h:Heap} {v:AVal} {l:List Int} {w:Nat} (hI:Ints h v l) (ok:PapOk w l):callL prog raw base (.fn 135 [] []) [papV (w:Int) v] h=some (.int .i64 0,h):=by
 obtain ⟨hw,hl,hC⟩:=ok
 have o:=hI.one
 have t1:(1≤(w:Int)∧(w:Int)≤8)=True:=eq_true (by omega)
 have t2:(1≤(l.length:Int)∧(l.length:Int)≤48)=True:=eq_true (by omega)
 have ev:∀ {base:Nat} {T:Heap},T=h++[paB (w:Int) v]→callL prog raw base (.fn 142 [] []) [v,.fn 204 [] [.ptr (some ⟨h.length,0,0⟩)]] T=some (.bool true,T):=fun {base T} e=>by
  have hg:T[h.length]?=some (paB (w:Int) v):=by rw [e];exact get_eq rfl
  have:=every_C (base:=base) (h:=T) (v:=v) (g:=.fn 204 [] [.ptr (some ⟨h.length,0,0⟩)]) (l:=l) (fun _=>true) (by rw [e];exact hI.app) (fun base T x hx=>run_chk1P (get_app hg) hw.2 (hC x hx)) ⟨rfl,rfl,rfl⟩
  rwa [show (l.all fun _=>true)=true from List.all_eq_true.2 fun _ _=>rfl] at this
 have ev2:=fun base=>ev (base:=base) rfl
 refine callL_run func135 rfl rfl ?_
 have hsp:=@Nat.succ_ne_zero;repeat' (first|simp (disch:=first|exact dqb|fail) only [go_sem,↓reduceIte,hsp,t1,t2,ev2]|refine WP_drw ?_|refine cnd_intro (fun hsp=>?_) fun hsp=>?_)
 exact fI rfl (.app .refl)
def fndI (p:Nat→Bool) (n:Nat):Option Nat:=(List.range n).find? p
theorem fndI_some {p:Nat→Bool} {n t:Nat} (ht:t<n) (hp:p t=true) (hb:∀ j,j<t→p j=false):fndI p n=some t:=by
 rw [fndI,List.find?_range_eq_some]
 exact ⟨hp,by simpa using ht,fun j hj=>by simp [hb j hj]⟩
theorem fndI_none {p:Nat→Bool} {n:Nat} (hb:∀ j,j<n→p j=false):fndI p n=none:=by
 rw [fndI,List.find?_eq_none]
 intro j hj
 simp [hb j (by simpa using hj)]
theorem fndI_is {p:Nat→Bool} {n t:Nat} (h:fndI p n=some t):t<n∧p t=true∧∀ j,j<t→p j=false:=by
 rw [fndI,List.find?_range_eq_some] at h
 exact ⟨by simpa using h.2.1,h.1,fun j hj=>by simpa using h.2.2 j hj⟩
theorem fndI_not {p:Nat→Bool} {n:Nat} (h:fndI p n=none):∀ j,j<n→p j=false:=by
 rw [fndI,List.find?_eq_none] at h
 intro j hj
 simpa using h j (by simpa using hj)
theorem cdN_small {k n t:Nat} (h:t<n):cdN k n t=t:=by
 unfold cdN
 split
 ·exact Nat.mod_eq_of_lt h
 ·split
  ·rename_i h2
   by_cases e:t<2 * n-2
   ·rw [Nat.mod_eq_of_lt e];omega
   ·have:n=1 ∨ t=2 * n-2:=by omega
    omega
  ·exact Nat.mod_eq_of_lt h
theorem mvN_small {k n s w t:Nat} (h:t<n):mvN k n s w t=0:=by
 unfold mvN
 split
 ·rw [Nat.div_eq_of_lt h];simp
 ·rfl
theorem rt0 {x w:Nat} (h:x<2 ^ w):rtN x 0 w=x:=by
 unfold rtN
 rw [Nat.pow_zero,Nat.mul_one,Nat.mod_eq_of_lt h,Nat.sub_zero,Nat.div_eq_of_lt h];rfl
def offN (w:Nat) (l:List Int) (k n s t:Nat):Bool:=decide (((rtN (l.getD (cdN k n t) 0).toNat (mvN k n s w t) w:Nat):Int) ≠ l.getD t 0)
def fstS (w:Nat) (l:List Int) (k n s:Nat):Nat × Nat × Bool :=
 match fndI (offN w l k n s) l.length with|some t=>(cdN k n t,t,true)|none=>(0,0,false)
theorem off_small {w:Nat} {l:List Int} {k n s t:Nat} (ht:t<n) (hl:0≤l.getD t 0∧l.getD t 0<((2 ^ w:Nat):Int)):offN w l k n s t=false:=by
 unfold offN
 rw [cdN_small ht,mvN_small ht,rt0 (by omega)]
 exact decide_eq_false (by omega)
def cnF (i c:Nat):Int:=if c<i then -1 else 0
abbrev cnB (i:Nat):ABlk:=⟨.cells (ints (lst (cnF i) 48)) 353 false false,0⟩
def tknF (n t c:Nat):Int:=if c<t∧c<n then (c:Int) else -1
abbrev tknB (n t:Nat):ABlk:=⟨.cells (ints (lst (tknF n t) 48)) 353 false false,0⟩
set_option maxHeartbeats 4000000 in
theorem run_first1 {base:Nat} {h:Heap} {v:AVal} {l:List Int} {w k n s:Nat} (hI:Ints h v l) (ok:PapOk w l) (hk:k≤2) (hs:s≤1000) (hn:1≤n∧n≤l.length) :
  callL prog raw base (.fn 206 [] []) [papV (w:Int) v,plnV (k:Int) (n:Int) (s:Int)] h=some (.tuple [.int .i64 (((fstS w l k n s).1:Nat):Int),.int .i64 (((fstS w l k n s).2.1:Nat):Int),.bool (fstS w l k n s).2.2],h):=by
 obtain ⟨hw,hl,hC⟩:=ok
 have ov:=hI.one
 have otk:=fun i=>takF_one (k:=(k:Int)) (n:=(n:Int)) (i:=i)
 obtain ⟨A,eA⟩:∃ A,A=h++[dkB (w:Int) v]++[plB (k:Int) (n:Int) (s:Int)]:=⟨_,rfl⟩
 have xA:Ext h A:=by rw [eA];exact .app (.app .refl)
 have lA:A.length=h.length+2:=by rw [eA];simp
 have gd:A[h.length]?=some (dkB (w:Int) v):=by rw [eA];exact get_app (get_eq rfl)
 have gp:A[h.length+1]?=some (plB (k:Int) (n:Int) (s:Int)):=by rw [eA];exact get_eq (by simp)
 refine callL_run func206 rfl rfl ?_
 have hsp:=@Nat.succ_ne_zero;repeat' (first|simp (disch:=first|exact dqb|fail) only [go_sem,↓reduceIte,hsp,← eA]|refine WP_drw ?_|refine cnd_intro (fun hsp=>?_) fun hsp=>?_)
 refine WP_count [(8,21)] 0 48 (Nat.zero_le _) (fun _ i fr K=>fr 16=.int .i64 (i:Int)∧K=A++[(cnB i)]) ?_ ?_ ?_
 ·exact ⟨by (simp (disch:=first|exact dqb|fail) only [go_sem,↓reduceIte,Int.natCast_zero];first|done|rfl),rfl⟩
 ·rintro i fr K hi0 hi hA ⟨r16,eK⟩
  subst eK
  have q2:=hA 2 rfl
  have q3:=hA 3 rfl
  have q4:=hA 4 rfl
  have q5:=hA 5 rfl
  have q6:=hA 6 rfl
  have q7:=hA 7 rfl
  try simp (disch:=first|exact dqb|fail) only [go_sem,↓reduceIte] at q2 q3 q4 q5 q6 q7
  have hlt:((i:Int)<48)=True:=eq_true (by omega)
  have had:=Fc.ad353 (id:=A.length) (ver:=0) (o:=0) (i:=(i:Int)) (by omega) (by omega)
  rw [Int.toNat_natCast,Nat.mul_one,Nat.zero_add] at had
  have gK:(A++[(cnB i)])[A.length]?=some (cnB i):=get_eq rfl
  have hset:(A++[(cnB i)]).set A.length (cnB (i+1))=A++[(cnB (i+1))]:=by
   rw [List.set_append_right _ _ (Nat.le_refl _),Nat.sub_self];rfl
  have hcn:∀ c,(if c=i then (-1:Int) else cnF i c)=cnF (i+1) c:=fun c=>by
   unfold cnF
   by_cases e1:c=i
   ·rw [if_pos e1,if_pos (by omega)]
   ·rw [if_neg e1]
    by_cases e2:c<i
    ·rw [if_pos e2,if_pos (by omega)]
    ·rw [if_neg e2,if_neg (by omega)]
  have st1:∀ {K:ABlk→Heap},stQ h.length A.length (some (cnB i)) 0 i [.int .i64 (-1)] K=some (K (cnB (i+1))):=fun {K}=>by
   have e:lst (fun j=>if j=i then -1 else cnF i j) 48=lst (cnF (i+1)) 48:=lst_congr fun c _=>hcn c
   rw [stQ_ints (by rw [lst_len];omega),lst_set (by omega),e]
  have hsp:=@Nat.succ_ne_zero;repeat' (first|simp (disch:=first|exact dqb|fail) only [go_sem,↓reduceIte,hsp,r16,q2,q3,q4,q5,q6,q7,hlt,had,gK,st1,hset]|refine WP_drw ?_|refine cnd_intro (fun hsp=>?_) fun hsp=>?_)
  exact ⟨agq,by omega⟩
 ·rintro fr K hA ⟨r16,eK⟩
  have q2:=hA 2 rfl
  have q3:=hA 3 rfl
  have q4:=hA 4 rfl
  have q5:=hA 5 rfl
  have q6:=hA 6 rfl
  have q7:=hA 7 rfl
  try simp (disch:=first|exact dqb|fail) only [go_sem,↓reduceIte] at q2 q3 q4 q5 q6 q7
  have hlt:(((48:Nat):Int)<48)=False:=eq_false (by omega)
  have hlt2:((48:Int)<48)=False:=eq_false (by omega)
  have eK0:∀ N,lst (cnF N) N=lst (tknF n 0) N:=fun N=>lst_congr fun c hc=>by unfold cnF tknF;rw [if_pos hc,if_neg (by omega)]
  have eK1:K=A++[tknB n 0]:=by
   have e:=eK0 48
   rw [eK,cnB,e]
  obtain ⟨U,eU⟩:∃ U,U=takH (k:Int) (n:Int) (s:Int) (w:Int):=⟨_,rfl⟩
  obtain ⟨F,eF⟩:∃ F,F=takF (k:Int) (n:Int) (A.length+1):=⟨_,rfl⟩
  obtain ⟨Kt,eKt⟩:∃ Kt:Nat→Heap,Kt=fun t=>A++[tknB n t]++U++[⟨.cells [F] 275 false false,0⟩]:=⟨_,rfl⟩
  have hlKt:∀ t,(Kt t).length=A.length+1+U.length+1:=fun t=>by rw [eKt];simp;omega
  have gA:∀ t,Ext A (Kt t):=fun t=>by rw [eKt];exact .app (.app (.app .refl))
  have gT:∀ t,(Kt t)[A.length]?=some (tknB n t):=fun t=>by rw [eKt];exact get_app (get_app (get_eq rfl))
  have gF:∀ t,(Kt t)[A.length+1+U.length]?=some ⟨.cells [F] 275 false false,0⟩:=fun t=>by rw [eKt];exact get_eq (by simp;omega)
  have hTk:∀ t,TakAt (Kt t) (A.length+1) k n s w:=fun t=>by
   have:=TakAt.new (H:=A++[tknB n t]) (k:=k) (n:=n) (s:=s) (w:=w)
   rw [← eU,show (A++[tknB n t]).length=A.length+1 by simp] at this
   rw [eKt];exact this.ext (.app .refl)
  have sT:∀ t t',(Kt t).set A.length (tknB n t')=Kt t':=fun t t'=>by
   rw [eKt]
   simp only [List.append_assoc]
   rw [List.set_append_right _ _ (Nat.le_refl _),Nat.sub_self]
   rfl
  have oF:One F:=by rw [eF];exact takF_one
  have etk:=fun base=>run_takerQ (base:=base) (h:=K) (k:=(k:Int)) (n:=(n:Int)) (s:=(s:Int)) (W:=(w:Int))
  have lK:K.length=A.length+1:=by rw [eK1];simp
  rw [lK,← eU,← eF] at etk
  have gdK:K[h.length]?=some (dkB (w:Int) v):=by rw [eK1];exact get_app gd
  have gpK:K[h.length+1]?=some (plB (k:Int) (n:Int) (s:Int)):=by rw [eK1];exact get_app gp
  have e0:K++U++[⟨.cells [F] 275 false false,0⟩]=Kt 0:=by rw [eKt,eK1]
  have hgl:(K++U).length=A.length+1+U.length:=by simp [lK]
  have hlI:=lenI ((hI.ext xA).ext (gA 0))
  have gd0:=(gA 0).get gd
  have hsp:=@Nat.succ_ne_zero;repeat' (first|simp (disch:=first|exact dqb|fail) only [go_sem,↓reduceIte,hsp,r16,q2,q3,q4,q5,q6,q7,hlt,hlt2,gpK,gdK,etk,e0,hgl,gd0,hlI]|refine WP_drw ?_|refine cnd_intro (fun hsp=>?_) fun hsp=>?_)
  refine WP_count [(4,6),(10,15),(31,88)] 0 l.length (Nat.zero_le _) (fun _ t fr X=>fr 31=.int .i64 (t:Int)∧X=Kt t∧∀ j,j<t→offN w l k n s j=false) ?_ ?_ ?_
  ·exact ⟨by (simp (disch:=first|exact dqb|fail) only [go_sem,↓reduceIte,Int.natCast_zero];first|done|rfl),rfl,fun j hj=>by omega⟩
  ·rintro t fr2 X ht0 ht hA2 ⟨r31,eX,hP⟩
   subst eX
   have d2:=hA2 2 rfl
   have d7:=hA2 7 rfl
   have d9:=hA2 9 rfl
   have d29:=hA2 29 rfl
   have d30:=hA2 30 rfl
   try simp (disch:=first|exact dqb|fail) only [go_sem,↓reduceIte,q2,q7] at d2 d7 d9 d29 d30
   have hlt3:((t:Int)<(l.length:Int))=True:=eq_true (by omega)
   have iK:=(hI.ext xA).ext (gA t)
   have at1:=adrI (i:=(t:Int)) (by omega) iK (by omega)
   rw [Int.toNat_natCast] at at1
   have lt1:=loadI iK ht
   have gF1:=gF t
   have gT1:=gT t
   have gd1:=(gA t).get gd
   have rt1:=fun base=>run_tak (base:=base) (t:=t) (hTk t) (by omega) hs (by omega) (by omega)
   rw [← eF] at rt1
   have c1:=cdN_lt (k:=k) (n:=n) (t:=t) (by omega)
   have m1:=mvN_lt (k:=k) (n:=n) (s:=s) (w:=w) (t:=t) (by omega)
   obtain ⟨y,ey⟩:∃ y,y=l.getD t 0:=⟨_,rfl⟩
   have hy:=hC _ (getD_mem' (d:=(0:Int)) ht)
   have off0:t<n→∀ j,j<t+1→offN w l k n s j=false:=fun htn j hj=>by
    by_cases x1:j=t
    ·subst x1;exact off_small htn hy
    ·exact hP j (by omega)
   rw [← ey] at lt1 hy
   have hadc:=fun (c:Nat) (hc:c<48)=>by
    have:=Fc.ad353 (id:=A.length) (ver:=0) (o:=0) (i:=(c:Int)) (by omega) (by omega)
    rw [Int.toNat_natCast,Nat.mul_one,Nat.zero_add] at this
    exact this
   have hldc:=fun (c:Nat) (hc:c<48)=>show loadP prog (Kt t) 3 (.ptr (some ⟨A.length,0,c⟩))=some (.int .i64 (tknF n t c)) by
    rw [load_eq,Fc.ty3,gT1,ldB_ints (by rw [lst_len];exact hc),lst_get hc]
   by_cases htn:t<n
   ·have ec:cdN k n t=t:=cdN_small htn
    rw [ec] at rt1
    have had1:=hadc t (by omega)
    have hld1:=hldc t (by omega)
    have ev1:tknF n t t=-1:=by unfold tknF;rw [if_neg (by omega)]
    rw [ev1] at hld1
    have st1:∀ {Q:ABlk→Heap},stQ h.length A.length (some (tknB n t)) 0 t [.int .i64 (t:Int)] Q=some (Q (tknB n (t+1))):=fun {Q}=>by
     have e:lst (fun j=>if j=t then (t:Int) else tknF n t j) 48=lst (tknF n (t+1)) 48:=lst_congr fun c _=>by
      unfold tknF
      by_cases x1:c=t
      ·rw [if_pos x1,if_pos (by omega),x1]
      ·rw [if_neg x1]
       by_cases x2:c<t∧c<n
       ·rw [if_pos x2,if_pos (by omega)]
       ·rw [if_neg x2,if_neg (by omega)]
     rw [stQ_ints (by rw [lst_len];omega),lst_set (by omega),e]
    have sT1:=sT t (t+1)
    have hsp:=@Nat.succ_ne_zero;repeat' (first|simp (disch:=first|exact dqb|fail) only [go_sem,↓reduceIte,hsp,r31,d2,d7,d9,d29,d30,q2,q3,q4,q5,q6,q7,hlt3,at1,lt1,gF1,rt1,had1,hld1,eq_self,gT1,st1,sT1]|refine WP_drw ?_|refine cnd_intro (fun hsp=>?_) fun hsp=>?_)
    exact ⟨agq,by omega,off0 htn⟩
   ·obtain ⟨c,ec⟩:∃ c,c=cdN k n t:=⟨_,rfl⟩
    obtain ⟨m,em⟩:∃ m,m=mvN k n s w t:=⟨_,rfl⟩
    rw [← ec,← em] at rt1
    rw [← ec] at c1
    rw [← em] at m1
    have had1:=hadc c (by omega)
    have hld1:=hldc c (by omega)
    have ev1:tknF n t c=(c:Int):=by unfold tknF;rw [if_pos (by omega)]
    rw [ev1] at hld1
    have t1:((c:Int)=-1)=False:=eq_false (by omega)
    have rt2:=fun base=>run_tak (base:=base) (t:=c) (hTk t) (by omega) hs (by omega) (by omega)
    rw [← eF,cdN_small c1,mvN_small c1] at rt2
    have ac1:=adrI (i:=(c:Int)) (by omega) iK (by omega)
    rw [Int.toNat_natCast] at ac1
    have lc1:=loadI iK (i:=c) (by omega)
    have hx:=hC _ (getD_mem' (l:=l) (d:=(0:Int)) (i:=c) (by omega))
    obtain ⟨x,ex⟩:=Int.eq_ofNat_of_zero_le hx.1
    rw [ex] at lc1 hx
    have e5:(m:Int)-0+(w:Int)=((m+w:Nat):Int):=by omega
    have e6:binA prog .rem 3 (.int .i64 ((m+w:Nat):Int)) (.int .i64 (w:Int))=some (.int .i64 (m:Int)):=by
     rw [bin_rem (by omega),tmodN,Nat.add_mod_right,Nat.mod_eq_of_lt m1]
    have hmv:=fun base=>run_movedQ (base:=base) (h:=Kt t) (x:=x) (b:=m) (w:=w) hw (by omega) m1
    have hoff:offN w l k n s t=decide (((rtN x m w:Nat):Int) ≠ y):=by
     unfold offN;rw [← ec,← em,ex,← ey,Int.toNat_natCast]
    have same:∀ {j},(Kt (t+1))=Kt t ∨ j=0:=fun {j}=>.inl (by
     rw [eKt]
     have e:lst (tknF n (t+1)) 48=lst (tknF n t) 48:=lst_congr fun c _=>by
      unfold tknF
      by_cases x2:c<t∧c<n
      ·rw [if_pos x2,if_pos (by omega)]
      ·rw [if_neg x2,if_neg (by omega)]
     simp only [tknB,e])
    have same1:Kt (t+1)=Kt t:=by
     rcases same (j:=1) with e|e
     ·exact e
     ·cases e
    by_cases cy:((rtN x m w:Nat):Int)=y
    ·have t2:(((rtN x m w:Nat):Int)=y)=True:=eq_true cy
     have hsp:=@Nat.succ_ne_zero;repeat' (first|simp (disch:=first|exact dqb|fail) only [go_sem,↓reduceIte,hsp,r31,d2,d7,d9,d29,d30,q2,q3,q4,q5,q6,q7,hlt3,at1,lt1,gF1,rt1,had1,hld1,t1,rt2,ac1,lc1,gd1,e5,e6,hmv,neB,ne_eq,t2,not_true,decide_false]|refine WP_drw ?_|refine cnd_intro (fun hsp=>?_) fun hsp=>?_)
     refine ⟨agq,by omega,same1.symm,fun j hj=>?_⟩
     by_cases x1:j=t
     ·rw [x1,hoff];exact decide_eq_false (fun q=>q cy)
     ·exact hP j (by omega)
    ·have t2:(((rtN x m w:Nat):Int)=y)=False:=eq_false cy
     have hsp:=@Nat.succ_ne_zero;repeat' (first|simp (disch:=first|exact dqb|fail) only [go_sem,↓reduceIte,hsp,r31,d2,d7,d9,d29,d30,q2,q3,q4,q5,q6,q7,hlt3,at1,lt1,gF1,rt1,had1,hld1,t1,rt2,ac1,lc1,gd1,e5,e6,hmv,neB,ne_eq,t2,not_false_iff,decide_true]|refine WP_drw ?_|refine cnd_intro (fun hsp=>?_) fun hsp=>?_)
     have e8:fstS w l k n s=(c,t,true):=by
      unfold fstS
      rw [fndI_some (t:=t) ht (by rw [hoff];exact decide_eq_true cy) hP]
      show (cdN k n t,t,true)=_
      rw [← ec]
     rw [e8]
     exact fIIB rfl rfl rfl (xA.trans (gA t))
  ·rintro fr2 X hA2 ⟨r31,eX,hP⟩
   subst eX
   have d2:=hA2 2 rfl
   have d7:=hA2 7 rfl
   have d9:=hA2 9 rfl
   have d29:=hA2 29 rfl
   have d30:=hA2 30 rfl
   try simp (disch:=first|exact dqb|fail) only [go_sem,↓reduceIte,q2,q7] at d2 d7 d9 d29 d30
   have hlt3:((l.length:Int)<(l.length:Int))=False:=eq_false (by omega)
   have e8:fstS w l k n s=(0,0,false):=by
    unfold fstS
    rw [fndI_none hP]
   have hsp:=@Nat.succ_ne_zero;repeat' (first|simp (disch:=first|exact dqb|fail) only [go_sem,↓reduceIte,hsp,r31,d2,d7,d9,d29,d30,q2,q3,q4,q5,q6,q7,hlt3]|refine WP_drw ?_|refine cnd_intro (fun hsp=>?_) fun hsp=>?_)
   rw [e8]
   exact fIIB rfl rfl rfl (xA.trans (gA _))
end L3
end Go.AM
namespace Go.AM
namespace L3
open Go.Proofs.Tryz
attribute [-go_sem] put_ne put_same
attribute [local go_sem ↓] put_if
theorem fst_all {w:Nat} {l:List Int} (ok:PapOk w l) {k s:Nat}:(fstS w l k l.length s).2.2=false:=by
 unfold fstS
 rw [fndI_none fun i hi=>off_small hi (ok.hc _ (getD_mem' (d:=(0:Int)) hi))]
def onlI (w:Nat) (l:List Int) (k s:Nat):Option Nat:=fndI (fun m=>!(fstS w l k (m+1) s).2.2) l.length
end L3
end Go.AM
namespace Go.AM
namespace L3
open Go.Proofs.Tryz
theorem refs_pap {w:Nat} {v:AVal}:refsL [.int .i64 (w:Int),v]=v.refs:=by simp [refsL,AVal.refs]
theorem run_plans {base:Nat} {h:Heap} {v:AVal} {l:List Int} {w:Nat} {n:Int} (hI:Ints h v l):callL prog raw base (.fn 205 [] []) [papV w v,.int .i64 n] h =
  some (.fn 258 [] [.ptr (some ⟨h.length,0,0⟩),.ptr (some ⟨h.length+1,0,0⟩)],h++[inB n,⟨.cells [.int .i64 (w:Int),v] 268 false false,0⟩]):=by
 refine callL_run func205 rfl rfl ?_
 have hsp:=@Nat.succ_ne_zero;repeat' (first|simp (disch:=first|exact dqb|fail) only [go_sem,hsp]|refine WP_drw ?_|refine cnd_intro (fun hsp=>?_) fun hsp=>?_)
 rw [List.append_assoc]
 have hlow:=hI.refs_lt
 have hlen:=hI.refs_len
 rw [compact_gen (js:=[1,0]) (bs:=[inB n,⟨.cells [.int .i64 (w:Int),v] 268 false false,0⟩]) (by simp [AVal.refs,refsL]) (by decide) ?_ ?_ rfl]
 ·have n0:∀ {js:List Nat} {u:Nat},newId h.length (js.map fun j=>h.length+j) h.length u=(h.length+js.idxOf 0,0):=fun {js u}=>newId_map (j:=0)
  have n1:∀ {js:List Nat} {u:Nat},newId h.length (js.map fun j=>h.length+j) (h.length+1) u=(h.length+js.idxOf 1,0):=fun {js u}=>newId_map (j:=1)
  simp only [AVal.ren,renL,n0,n1]
  rfl
 ·intro j hj
  simp only [List.mem_cons,List.not_mem_nil,or_false] at hj
  rcases hj with rfl|rfl
  ·exact ⟨_,_,_,_,rfl,by simp [refsL,AVal.refs],by simp [renL,AVal.ren]⟩
  ·refine ⟨_,_,_,_,rfl,by rw [refs_pap];exact hlow,?_⟩
   simp only [renL,AVal.ren,hI.ren_low]
 ·simp [rcost,blkRefs,ABody.refs,refsL,AVal.refs]
  omega
def planK (j:Nat):Int:=if j=0 then 0 else if j=1 then 1 else 2
def planT (j:Nat):Int:=if j≤1 then 0 else (j:Int)-1
theorem run_plans1 {base m L cp dp:Nat} {H0:Heap} {v:AVal} {w:Nat} {n:Int} (hw:1≤w∧w≤8) (J:Nat→Heap→Prop) (S:Heap→Prop) (happ:∀ j H T,J j H→J j (H++T)) (hm:∀ j H,J j H→m≤H.length)
  (hget:∀ j H,J j H→H[cp]?=some (inB n)∧H[dp]?=some ⟨.cells [.int .i64 (w:Int),v] 268 false false,0⟩)
  (hy:∀ j H,j<w+1→J j H→∃ b H',callL prog raw base (.yld L) [plnV (planK j) n (planT j)] H=some (.bool b,H')∧(∀ i x,m≤i→H[i]?=some x→H'[i]?=some x)∧(b=true→J (j+1) H')∧(b=false→S H'))
  (h0:J 0 H0):∃ H',callL prog raw base (.fn 258 [] [.ptr (some ⟨cp,0,0⟩),.ptr (some ⟨dp,0,0⟩)]) [.yld L] H0=some (.tuple [],H')∧(J (w+1) H' ∨ S H'):=by
 have key:=callL_rawW (P:=prog) (raw:=raw) (base:=base) (f:=258) (fn:=f258) (first:=[]) (captured:=[.ptr (some ⟨cp,0,0⟩),.ptr (some ⟨dp,0,0⟩)]) (args:=[.yld L]) (h:=H0) (K:=fun v H'=>v=.tuple []∧(J (w+1) H' ∨ S H')) func258 rfl rfl ?_
 ·obtain ⟨v,H',h1,rfl,h2⟩:=key
  exact ⟨H',h1,h2⟩
 have bs:∀ {lit:Bool} {H:Heap},lit=false→bsA prog lit H 352 2 [(0,.int .i64 0),(1,.int .i64 1)]=some (.slice (some ⟨H.length,0,0⟩) 2 2,H++[⟨.cells [.int .i64 0,.int .i64 1] 48 true false,0⟩]):=fun {lit H} hl=>by
  subst hl
  simp [bsA,rowOf,Fc.el352,fillA,repCells,AVal.isN,AVal.cells,splice]
 have len:∀ {H:Heap} {o m k:Nat},lenOpA prog H 352 (.slice (some ⟨o,0,0⟩) m k)=some (.int .i64 (m:Int)):=fun {H o m k}=>by simp [lenOpA,Fc.el352,lenA]
 have adr:∀ {o m k:Nat} {i:Int},0≤i→i<m→indexAddrA prog 352 (.slice (some ⟨o,0,0⟩) m k) (.int .i64 i)=some (.ptr (some ⟨o,0,i.toNat⟩)):=fun {o m k i} h0 h1=>by
  simp [indexAddrA,Fc.ar352,Fc.el352,h0,h1,ARef.add]
 have hm0:=hm 0 H0 h0
 have hsp:=@Nat.succ_ne_zero;repeat' (first|simp (disch:=first|exact dqb|fail) only [go_sem,hsp,bs,len]|refine WP_drw ?_|refine cnd_intro (fun hsp=>?_) fun hsp=>?_)
 refine WP_loop (fun σ=>∃ i:Nat,i≤2∧σ.fr 9=.int .i64 (i:Int)∧σ.fr 8=.int .i64 2∧σ.fr 7=.slice (some ⟨H0.length,0,0⟩) 2 2∧σ.fr 0=.yld L∧σ.fr 1=.ptr (some ⟨cp,0,0⟩)∧σ.fr 2=.ptr (some ⟨dp,0,0⟩) ∧
  σ.h[H0.length]?=some ⟨.cells [.int .i64 0,.int .i64 1] 48 true false,0⟩∧J i σ.h) (fun σ=>match σ.fr 9 with|.int _ x=>(2-x).toNat|_=>0) ?_ ?_
 ·refine ⟨0,by omega,by simp (disch:=first|exact dqb|fail) only [go_sem,Int.natCast_zero],by (first|(simp (disch:=first|exact dqb|fail) only [go_sem];done)|(simp (disch:=first|exact dqb|fail) only [go_sem];rfl)),by simp (disch:=first|exact dqb|fail) only [go_sem],by simp (disch:=first|exact dqb|fail) only [go_sem],by simp (disch:=first|exact dqb|fail) only [go_sem],by simp (disch:=first|exact dqb|fail) only [go_sem],by simp,happ _ _ _ h0⟩
 ·rintro ⟨fr,H⟩ ⟨i,hi,r9,r8,r7,r0,r1,r2,hb,hJ⟩
  dsimp only at r9 r8 r7 r0 r1 r2 hb hJ
  obtain ⟨hg1,hg2⟩:=hget i H hJ
  by_cases hi2:i<2
  ·have hv:([.int .i64 0,.int .i64 1]:List AVal)[i]?=some (.int .i64 (planK i)):=by
    have:i=0 ∨ i=1:=by omega
    rcases this with rfl|rfl<;>rfl
   have ht:planT i=0:=by unfold planT;rw [if_pos (by omega)]
   obtain ⟨b,H',hc,hkeep,ht',hf⟩:=hy i H (by omega) hJ
   rw [ht] at hc
   have hi2':((i:Int)<2)=True:=eq_true (by omega)
   have hsp:=@Nat.succ_ne_zero;repeat' (first|simp (disch:=first|exact dqb|fail) only [go_sem,hsp,r9,r8,r7,r0,r1,r2,bs,len,adr,hb,hg1,inB,hv,hc,hi2']|refine WP_drw ?_|refine cnd_intro (fun hsp=>?_) fun hsp=>?_)
   ·exact .inr (hf (by simpa using ‹_›))
   ·refine ⟨⟨i+1,by omega,by simp,hkeep _ _ hm0 hb,ht' (by cases b with|true=>rfl|false=>exact absurd rfl (by assumption))⟩,by omega⟩
  ·have hi2':((i:Int)<2)=False:=eq_false (by omega)
   have e2:i=2:=by omega
   subst e2
   have hsp:=@Nat.succ_ne_zero;repeat' (first|simp (disch:=first|exact dqb|fail) only [go_sem,hsp,r9,r8,r7,r0,r1,r2,bs,len,hi2']|refine WP_drw ?_|refine cnd_intro (fun hsp=>?_) fun hsp=>?_)
   refine WP_loop (fun σ=>∃ i:Nat,1≤i∧(i:Int)≤w∧σ.fr 6=.int .i64 (i:Int)∧σ.fr 0=.yld L∧σ.fr 1=.ptr (some ⟨cp,0,0⟩)∧σ.fr 2=.ptr (some ⟨dp,0,0⟩)∧J (i+1) σ.h) (fun σ=>match σ.fr 6 with|.int _ x=>(w-x).toNat|_=>0) ?_ ?_
   ·refine ⟨1,by omega,by omega,by (first|(simp (disch:=first|exact dqb|fail) only [go_sem,r0,r1,r2];done)|(simp (disch:=first|exact dqb|fail) only [go_sem,r0,r1,r2];rfl)),by simp (disch:=first|exact dqb|fail) only [go_sem,r0,r1,r2],by simp (disch:=first|exact dqb|fail) only [go_sem,r0,r1,r2],by simp (disch:=first|exact dqb|fail) only [go_sem,r0,r1,r2],hJ⟩
   ·rintro ⟨fr,H⟩ ⟨i,hi1,hi,r6,r0,r1,r2,hJ⟩
    dsimp only at r6 r0 r1 r2 hJ
    obtain ⟨hg1,hg2⟩:=hget (i+1) H hJ
    by_cases hiw:(i:Int)<w
    ·have hp:planK (i+1)=2:=by unfold planK;rw [if_neg (by omega),if_neg (by omega)]
     have ht:planT (i+1)=i:=by unfold planT;rw [if_neg (by omega)];omega
     obtain ⟨b,H',hc,hkeep,ht',hf⟩:=hy (i+1) H (by omega) hJ
     rw [ht,hp] at hc
     have hiw':((i:Int)<w)=True:=eq_true hiw
     have hsp:=@Nat.succ_ne_zero;repeat' (first|simp (disch:=first|exact dqb|fail) only [go_sem,hsp,r6,r0,r1,r2,hg1,hg2,inB,hc,hiw']|refine WP_drw ?_|refine cnd_intro (fun hsp=>?_) fun hsp=>?_)
     ·exact .inr (hf (by simpa using ‹_›))
     ·refine ⟨⟨i+1,by omega,by omega,by simp,ht' (by cases b with|true=>rfl|false=>exact absurd rfl (by assumption))⟩,by omega⟩
    ·have hiw':((i:Int)<w)=False:=eq_false hiw
     have hsp:=@Nat.succ_ne_zero;repeat' (first|simp (disch:=first|exact dqb|fail) only [go_sem,hsp,r6,r0,r1,r2,hg1,hg2,inB,hiw']|refine WP_drw ?_|refine cnd_intro (fun hsp=>?_) fun hsp=>?_)
     have e:i+1=w+1:=by omega
     rw [e] at hJ
     exact .inl hJ
theorem yld_plans {base L cp dp:Nat} {v:AVal} {w:Nat} {n:Int} {I:Nat→Heap→Prop} (hw:1≤w∧w≤8) (hI:∀ j H,I j H→H[cp]?=some (inB n)∧H[dp]?=some ⟨.cells [.int .i64 (w:Int),v] 268 false false,0⟩) :
  Yields prog raw base L (.fn 258 [] [.ptr (some ⟨cp,0,0⟩),.ptr (some ⟨dp,0,0⟩)]) (w+1) (fun j=>[plnV (planK j) n (planT j)]) I:=by
 intro J S H0 hL hJ happ hy h0
 obtain ⟨H',h1,h2⟩:=run_plans1 (m:=L+1) hw J S happ (fun j H h=>(hJ j H h).2) (fun j H h=>hI j H (hJ j H h).1) hy h0
 exact ⟨_,H',h1,h2⟩
def okP (w:Nat) (l:List Int) (n j:Nat):Bool:=!(fstS w l (planK j).toNat n (planT j).toNat).2.2
def fewJ (w:Nat) (l:List Int) (n:Nat):Option Nat:=fndI (okP w l n) (w+1)
def fewN (w:Nat) (l:List Int):Option Nat:=fndI (fun m=>(fewJ w l (m+1)).isSome) l.length
def fewestS (w:Nat) (l:List Int):Int × Int × Int :=
 match fewN w l with
 | some m=>match fewJ w l (m+1) with|some j=>(planK j,(m:Int)+1,planT j)|none=>(0,l.length,0)
 | none=>(0,l.length,0)
theorem planK_bd {j:Nat}:0≤planK j∧planK j≤2:=by
 unfold planK;split
 ·omega
 ·split<;>omega
theorem planT_bd {j:Nat} (h:j≤9):0≤planT j∧planT j≤1000:=by
 unfold planT;split<;>omega
theorem okP_all {w:Nat} {l:List Int} (ok:PapOk w l):okP w l l.length 0=true:=by
 unfold okP
 rw [show (planK 0).toNat=0 from rfl,show (planT 0).toNat=0 from rfl,fst_all ok];rfl
theorem fewN_some {w:Nat} {l:List Int} (ok:PapOk w l):∃ m j,fewN w l=some m∧fewJ w l (m+1)=some j:=by
 have hp:=ok.hn
 cases h:fewN w l with
 | some m =>
  have h1:=(fndI_is h).2.1
  cases h2:fewJ w l (m+1) with
  | some j=>exact ⟨m,j,rfl,h2⟩
  | none=>rw [h2] at h1;cases h1
 | none =>
  have h1:=fndI_not h (l.length-1) (by omega)
  rw [show l.length-1+1=l.length by omega] at h1
  cases h2:fewJ w l l.length with
  | some j=>rw [h2] at h1;cases h1
  | none =>
   have:=fndI_not h2 0 (by omega)
   rw [okP_all ok] at this
   cases this
def z3:List AVal:=[.int .i64 0,.int .i64 0,.int .i64 0]
def FB (h H:Heap) (w:Nat) (v:AVal) (out:List AVal):Prop:=Ext h H∧H[h.length]?=some ⟨.cells [.int .i64 (w:Int),v] 268 false false,0⟩∧H[h.length+1]?=some ⟨.cells z3 266 false false,0⟩ ∧
 H[h.length+2]?=some ⟨.cells z3 266 false false,0⟩∧H[h.length+3]?=some ⟨.cells out 266 false false,0⟩
theorem FB.app {h H T:Heap} {w:Nat} {v:AVal} {out:List AVal} (f:FB h H w v out):FB h (H++T) w v out :=
 ⟨f.1.app,get_app f.2.1,get_app f.2.2.1,get_app f.2.2.2.1,get_app f.2.2.2.2⟩
theorem FB.set {h H:Heap} {w:Nat} {v:AVal} {out:List AVal} {i:Nat} {b:ABlk} (f:FB h H w v out) (hi:h.length+4≤i):FB h (H.set i b) w v out:=by
 refine ⟨f.1.set (by omega),?_,?_,?_,?_⟩
 ·rw [get_set f.2.1,if_neg (by omega)]
 ·rw [get_set f.2.2.1,if_neg (by omega)]
 ·rw [get_set f.2.2.2.1,if_neg (by omega)]
 ·rw [get_set f.2.2.2.2,if_neg (by omega)]
theorem FB.out {h H:Heap} {w:Nat} {v:AVal} {out out':List AVal} (f:FB h H w v out):FB h (H.set (h.length+3) ⟨.cells out' 266 false false,0⟩) w v out':=by
 refine ⟨f.1.set (by omega),?_,?_,?_,?_⟩
 ·rw [get_set f.2.1,if_neg (by omega)]
 ·rw [get_set f.2.2.1,if_neg (by omega)]
 ·rw [get_set f.2.2.2.1,if_neg (by omega)]
 ·rw [get_set f.2.2.2.2,if_pos rfl]
theorem FB.len {h H:Heap} {w:Nat} {v:AVal} {out:List AVal} (f:FB h H w v out):h.length+4≤H.length:=lt_of_get f.2.2.2.2
theorem run_fewestQ {base:Nat} {h:Heap} {v:AVal} {l:List Int} {w:Nat} (hI:Ints h v l) (ok:PapOk w l) :
  callL prog raw base (.fn 136 [] []) [papV w v] h=some (plnV (fewestS w l).1 (fewestS w l).2.1 (fewestS w l).2.2,h):=by
 have hw:=ok.hw
 have hp:=ok.hn
 have ov:=hI.one
 have hlI:=fun (T:Heap)=>lenI (hI.ext (.app (t:=T) .refl))
 refine callL_run func136 rfl rfl ?_
 have hsp:=@Nat.succ_ne_zero;repeat' (first|simp (disch:=first|exact dqb|fail) only [go_sem,hsp,hlI]|refine WP_drw ?_|refine cnd_intro (fun hsp=>?_) fun hsp=>?_)
 refine WP_loop (fun σ=>∃ i:Nat,i≤l.length∧σ.fr 16=.int .i64 (i:Int)∧σ.fr 15=.int .i64 l.length∧σ.fr 1=.ptr (some ⟨h.length,0,0⟩)∧σ.fr 2=.ptr (some ⟨h.length+1,0,0⟩)∧σ.fr 3=.ptr (some ⟨h.length+2,0,0⟩)∧σ.fr 4=.ptr (some ⟨h.length+3,0,0⟩) ∧
  FB h σ.h w v z3∧∀ j,j<i→(fewJ w l (j+1)).isSome=false) (fun σ=>match σ.fr 16 with|.int _ x=>(l.length-x).toNat|_=>0) ?_ ?_
 ·refine ⟨0,by omega,by simp (disch:=first|exact dqb|fail) only [go_sem,Int.natCast_zero],by simp (disch:=first|exact dqb|fail) only [go_sem],by simp (disch:=first|exact dqb|fail) only [go_sem],by simp (disch:=first|exact dqb|fail) only [go_sem],by simp (disch:=first|exact dqb|fail) only [go_sem],by simp (disch:=first|exact dqb|fail) only [go_sem],?_,fun j hj=>by omega⟩
  dsimp only
  refine ⟨.app (.app (.app (.app .refl))),by simp (disch:=first|exact dqb|fail) only [go_sem],by simp (disch:=first|exact dqb|fail) only [go_sem,z3],?_,?_⟩
  ·rw [get_lt (by simp),get_eq (by simp)];rfl
  ·rw [get_eq (by simp)];rfl
 ·rintro ⟨fr,H⟩ ⟨i,hi,r16,r15,r1,r2,r3,r4,hf,hno⟩
  dsimp only at r16 r15 r1 r2 r3 r4 hf
  have hf0:=hf
  obtain ⟨hE,g0,g1,g2,g3⟩:=hf
  have hI':=hI.ext hE
  have hlI:=lenI hI'
  by_cases hil:i<l.length
  ·have hil':((i:Int)<l.length)=True:=eq_true (by omega)
   have pl:=fun base=>run_plans (base:=base) (w:=w) (n:=(i:Int)+1) hI'
   have hsp:=@Nat.succ_ne_zero;repeat' (first|simp (disch:=first|exact dqb|fail) only [go_sem,hsp,r16,r15,r1,r2,r3,r4,g0,hil',pl]|refine WP_drw ?_|refine cnd_intro (fun hsp=>?_) fun hsp=>?_)
   refine WP_range (f:=258) (a:=[]) (c:=[.ptr (some ⟨H.length,0,0⟩),.ptr (some ⟨H.length+1,0,0⟩)]) (by simp (disch:=first|exact dqb|fail) only [go_sem]) (N:=w+1) (xs:=fun j=>[plnV (planK j) ((i:Int)+1) (planT j)])
    (fun j H2=>FB h H2 w v z3∧H2[H.length]?=some (inB ((i:Int)+1))∧H2[H.length+1]?=some ⟨.cells [.int .i64 (w:Int),v] 268 false false,0⟩∧∀ t,t<j→okP w l (i+1) t=false)
    (fun e H2=>e=.exit 0∧∃ j,fewJ w l (i+1)=some j∧FB h H2 w v [.int .i64 (planK j),.int .i64 ((i:Int)+1),.int .i64 (planT j)])
    (yld_plans hw (fun j H2 hh=>⟨hh.2.1,hh.2.2.1⟩)) (fun j=>rfl) (fun j H2 T hh=>⟨hh.1.app,get_app hh.2.1,get_app hh.2.2.1,hh.2.2.2⟩) ?_ ?_ ?_ ?_ ?_ ?_
   ·intro j H2 b hh
    have hl:=hf0.len
    refine ⟨hh.1.set (by simp;omega),?_,?_,hh.2.2.2⟩
    ·rw [get_set hh.2.1,if_neg (by simp)]
    ·rw [get_set hh.2.2.1,if_neg (by simp)]
   ·rintro e H2 b ⟨he,j,h1,h2⟩
    have hl:=hf0.len
    exact ⟨he,j,h1,h2.set (by simp;omega)⟩
   ·refine ⟨hf0.app.app,get_app (by simp),get_app (by simp),fun t ht=>by omega⟩
   ·rintro j H2 B1 B2 hj ⟨hf2,hc2,hd2,hno2⟩ hlen2 hl2
    have hl:=hf0.len
    have hL:(H++[inB ((i:Int)+1),⟨.cells [.int .i64 (w:Int),v] 268 false false,0⟩]).length=H.length+2:=by simp
    rw [hL] at hlen2 hl2 ⊢
    have hI2:=hI.ext hf2.1
    have hf3:=(hf2.set (i:=H.length+2) (b:=B2) (by omega)).app (T:=[⟨.cells [.int .i64 (planK j),.int .i64 ((i:Int)+1),.int .i64 (planT j)] 266 false false,0⟩])
    have hI3:Ints (H2.set (H.length+2) B2++[⟨.cells [.int .i64 (planK j),.int .i64 ((i:Int)+1),.int .i64 (planT j)] 266 false false,0⟩]) v l:=hI.ext hf3.1
    obtain ⟨-,k0,k1,k2,k3⟩:=hf3
    have kb:=planK_bd (j:=j)
    have tb:=planT_bd (j:=j) (by omega)
    have f1:=fun base=>run_first1 (base:=base) (k:=(planK j).toNat) (n:=i+1) (s:=(planT j).toNat) hI3 ok (by omega) (by omega) (by omega)
    rw [show (((planK j).toNat:Nat):Int)=planK j by omega,show (((planT j).toNat:Nat):Int)=planT j by omega,show (((i+1:Nat)):Int)=(i:Int)+1 by omega] at f1
    cases c:(fstS w l (planK j).toNat (i+1) (planT j).toNat).2.2 with
    | false =>
     rw [c] at f1
     have hsp:=@Nat.succ_ne_zero;repeat' (first|simp (disch:=first|exact dqb|fail) only [go_sem,hsp,r1,r2,r3,r4,k0,k3]|refine WP_drw ?_|refine cnd_intro (fun hsp=>?_) fun hsp=>?_)
     refine ⟨hl2,?_⟩
     have hlt:=lt_of_get hl2
     have hsp:=@Nat.succ_ne_zero;repeat' (first|simp (disch:=first|exact dqb|fail) only [go_sem,hsp,r1,r2,r3,r4,k0,k3,z3,f1]|refine WP_drw ?_|refine cnd_intro (fun hsp=>?_) fun hsp=>?_)
     refine ⟨fun q x hq hx=>?_,.inr ⟨(fun hh=>by cases hh),j,?_,?_⟩⟩
     ·rw [get_app]
      rw [get_set_ne (by omega),get_set_ne (by omega)]
      exact hx
     ·exact fndI_some hj (by unfold okP;rw [c];rfl) hno2
     ·exact (hf2.set (i:=H.length+2) (b:=B2) (by omega)).out.app
    | true =>
     rw [c] at f1
     have hsp:=@Nat.succ_ne_zero;repeat' (first|simp (disch:=first|exact dqb|fail) only [go_sem,hsp,r1,r2,r3,r4,k0,k3]|refine WP_drw ?_|refine cnd_intro (fun hsp=>?_) fun hsp=>?_)
     refine ⟨hl2,?_⟩
     have hlt:=lt_of_get hl2
     have hsp:=@Nat.succ_ne_zero;repeat' (first|simp (disch:=first|exact dqb|fail) only [go_sem,hsp,r1,r2,r3,r4,k0,k3,z3,f1]|refine WP_drw ?_|refine cnd_intro (fun hsp=>?_) fun hsp=>?_)
     refine ⟨fun q x hq hx=>?_,.inl ⟨(hf2.set (i:=H.length+2) (b:=B2) (by omega)).app,hc2,hd2,fun t ht=>?_⟩⟩
     ·rw [get_app]
      rw [get_set_ne (by omega)]
      exact hx
     ·by_cases e:t=j
      ·subst e
       unfold okP
       rw [c];rfl
      ·exact hno2 t (by omega)
   ·rintro H2 ⟨hf2,hc2,hd2,hno2⟩
    have hsp:=@Nat.succ_ne_zero;repeat' (first|simp (disch:=first|exact dqb|fail) only [go_sem,hsp,r16,r15,r1,r2,r3,r4]|refine WP_drw ?_|refine cnd_intro (fun hsp=>?_) fun hsp=>?_)
    refine ⟨⟨i+1,by omega,by simp,hf2,fun j hj=>?_⟩,by omega⟩
    by_cases e:j=i
    ·subst e
     unfold fewJ
     rw [fndI_none fun t ht=>hno2 t ht]
     rfl
    ·exact hno j (by omega)
   ·rintro e H2 he ⟨rfl,j,h1,h2⟩
    obtain ⟨hE2,k0,k1,k2,k3⟩:=h2
    have hz:(planK j=0∧(i:Int)+1=0∧planT j=0)=False:=eq_false (by omega)
    have hlt:=lt_of_get k1
    have hsp:=@Nat.succ_ne_zero;repeat' (first|simp (disch:=first|exact dqb|fail) only [go_sem,hsp,r1,r2,r3,r4,k1,k2,k3,z3,hz]|refine WP_drw ?_|refine cnd_intro (fun hsp=>?_) fun hsp=>?_)
    have hfs:fewestS w l=(planK j,(i:Int)+1,planT j):=by
     unfold fewestS fewN
     rw [fndI_some (t:=i) hil (by rw [h1];rfl) (fun m hm=>hno m hm)]
     simp only [h1]
    rw [hfs]
    exact fin_pl rfl rfl (hE2.set (by omega))
  ·exfalso
   obtain ⟨m,j,h1,h2⟩:=fewN_some ok
   have:=(fndI_is h1).1
   have h3:=hno m (by omega)
   rw [h2] at h3
   cases h3
end L3
end Go.AM
namespace Go.AM
namespace L3
open Go.Proofs.Tryz
attribute [-go_sem] put_ne put_same
attribute [local go_sem ↓] put_if
theorem few_bd {w:Nat} {l:List Int} (ok:PapOk w l):1≤(fewestS w l).2.1∧(fewestS w l).2.1≤l.length:=by
 obtain ⟨m,j,h1,h2⟩:=fewN_some ok
 have hm:=(fndI_is h1).1
 have:fewestS w l=(planK j,(m:Int)+1,planT j):=by
  unfold fewestS
  rw [h1]
  simp only [h2]
 rw [this]
 dsimp only;omega
theorem pap_small {w:Nat} {l:List Int} (ok:PapOk w l):Small l:=by
 have hw:=ok.hw
 have hn:=ok.hn
 have hp:2 ^ w≤256:=by have:=Nat.pow_le_pow_right (show 0<2 by decide) hw.2;simpa using this
 exact ⟨by omega,fun x hx=>by have:=ok.hc x hx;omega⟩
theorem nil_of_nilB {h:Heap} {v:AVal} {l:List Int} (hI:Ints h v l) (hl:l ≠ []):nilB v=false:=by
 cases hn:nilB v with
 | false=>rfl
 | true=>exact absurd (hI.nilB_nil hn).2 hl
theorem run_FewestC {base:Nat} {h:Heap} {v:AVal} {l:List Int} {w:Nat} (hI:Ints h v l) (ok:PapOk w l) :
  ∃ (k s:Int) (c:Nat),(c:Int)=(fewestS w l).2.1∧callL prog raw base (.fn 51 [] []) [papV (w:Int) v] h=some (.tuple [chV (w:Int) (.slice (some ⟨h.length,0,0⟩) c c) k s,.int .i64 0],h++[rowB (l.take c) 0]):=by
 have ov:=hI.one
 obtain ⟨b1,b2⟩:=few_bd ok
 obtain ⟨k,n,s,ef⟩:∃ k n s,fewestS w l=(k,n,s):=⟨_,_,_,rfl⟩
 rw [ef] at b1 b2
 obtain ⟨c,ec⟩:=Int.eq_ofNat_of_zero_le (show 0≤n by dsimp only at b1;omega)
 subst ec
 dsimp only at b1 b2
 have hcl:(l.take c).length=c:=by rw [List.length_take];omega
 have hne:l.take c ≠ []:=fun q=>by rw [q] at hcl;simp at hcl;omega
 have hs:=pap_small ok
 have hts:Small (l.take c):=⟨by rw [hcl];have:=hs.1;omega,fun x hx=>hs.2 x (List.mem_of_mem_take hx)⟩
 obtain ⟨A,eA⟩:∃ A,A=h++[paB (w:Int) v]++[⟨.cells [.int .i64 0,.slice none 0 0,.int .i64 0,.int .i64 0] 50 false false,0⟩]:=⟨_,rfl⟩
 have xA:Ext h A:=by rw [eA];exact .app (.app .refl)
 have lA:A.length=h.length+2:=by rw [eA];simp
 have ga:A[h.length]?=some (paB (w:Int) v):=by rw [eA];exact get_app (get_eq rfl)
 have gc:A[h.length+1]?=some ⟨.cells [.int .i64 0,.slice none 0 0,.int .i64 0,.int .i64 0] 50 false false,0⟩:=by rw [eA];exact get_eq (by simp)
 have ck:=fun base=>run_checkP (base:=base) (hI.ext xA) ok
 have fw:=fun base=>run_fewestQ (base:=base) (hI.ext xA) ok
 rw [ef] at fw
 obtain ⟨B,eB⟩:∃ B,B=A++[plB k (c:Int) s]:=⟨_,rfl⟩
 have xB:Ext A B:=by rw [eB];exact .app .refl
 have lB':B.length=h.length+3:=by rw [eB];simp [lA]
 have gb:B[A.length]?=some (plB k (c:Int) s):=by rw [eB];exact get_eq rfl
 have ga2:=xB.get ga
 have gc2:=xB.get gc
 have iB2:=(hI.ext xA).ext xB
 have sl:sliceA prog 35 v none (some (.int .i64 (c:Int))) none=some (slcV v 0 c):=by
  have:=sl_hi (P:=prog) (n:=(c:Int)) Fc.el35 Fc.ar35 (by omega) hI (by omega)
  rwa [Int.toNat_natCast] at this
 have iS:=Ints.slc iB2 (Nat.zero_le 0) (show 0≤l.length by omega)
 have iS:=Ints.slc iB2 (Nat.zero_le c) (show c≤l.length by omega)
 rw [List.drop_zero] at iS
 have cl:=fun base=>run_clone (base:=base) iS hts
 rw [cloneV,cloneH,nil_of_nilB iS hne] at cl
 simp only [Bool.false_eq_true,if_false,newV_ne hne,newH_ne hne,hcl] at cl
 refine ⟨k,s,c,by rw [ef],?_⟩
 refine callL_run func51 rfl rfl ?_
 have hsp:=@Nat.succ_ne_zero;repeat' (first|simp (disch:=first|exact dqb|fail) only [go_sem,↓reduceIte,hsp,← eA,ga,ck,neB,ne_eq,eq_self,not_true,decide_false,fw,← eB,gb,ga2,gc2,sl,cl]|refine WP_drw ?_|refine cnd_intro (fun hsp=>?_) fun hsp=>?_)
 have hxt:Ext h (B.set (h.length+1) ⟨.cells [.int .i64 (w:Int),.slice (some ⟨B.length,0,0⟩) c c,.int .i64 k,.int .i64 s] 50 false false,0⟩++[rowB (l.take c) 0]):=((xA.trans xB).set (by omega)).app
 have hb:(B.set (h.length+1) ⟨.cells [.int .i64 (w:Int),.slice (some ⟨B.length,0,0⟩) c c,.int .i64 k,.int .i64 s] 50 false false,0⟩++[rowB (l.take c) 0])[h.length+3]?=some (rowB (l.take c) 0):=get_eq (by simp [lB'])
 have:=fin_nw (h:=h) (f:=fun x=>.tuple [.agg [.int .i64 (w:Int),x,.int .i64 k,.int .i64 s],.int .i64 0]) (l:=l.take c) (j:=3) (fun x=>by simp [AVal.refs,refsL]) (fun g x=>by simp [AVal.ren,renL]) hne hxt hb rfl rfl
 rw [newV_ne hne,newH_ne hne,hcl,← lB'] at this
 exact this
end L3
end Go.AM
namespace Go.AM
namespace L3
open Go.Proofs.Tryz
attribute [-go_sem] put_ne put_same
attribute [local go_sem ↓] put_if
theorem stE91a {base:Nat} {l:List Oper} {s:St} {Q:AExit→St→Prop}:WP prog raw base (.region 2 l.toArray false) s Q=WPS prog raw base (.region 2 l.toArray false) s Q:=WP_stop
attribute [local go_sem ↓ 3000] stE91a
theorem stE91c {base:Nat} {l:List Oper} {s:St} {Q:AExit→St→Prop}:WP prog raw base (.region 7 l.toArray true) s Q=WPS prog raw base (.region 7 l.toArray true) s Q:=WP_stop
attribute [local go_sem ↓ 3000] stE91c
set_option maxHeartbeats 1000000 in
theorem run_madeC {base id k0:Nat} {h:Heap} {v:AVal} {silk:List Int} {W0 C0:Int} (hb:base≤h.length) (hS:SpAt h id v silk k0) (hk:k0≤1000) (hW0:1≤W0∧W0≤8) (hC0:1≤C0∧C0≤48) :
  Ret prog raw base (.fn 14 [] []) [.ptr (some ⟨id,0,0⟩),.int .i64 W0,.int .i64 C0] h (fun r H=>∃ (w:Nat) (k s:Int) (l:List Int) (x:AVal) (k':Nat),SpE h id v silk k' H∧r=chV (w:Int) x k s∧Own encI 3 h.length H x l∧(1≤w∧(w:Int)≤max 2 W0)∧(1≤l.length∧(l.length:Int)≤C0)∧Crds w l):=by
 have hid:=lt_of_get hS.1
 have uW:=up_bd (silk:=silk) (k:=k0) (n:=W0-1) (by omega)
 have uK:=up_bd (silk:=silk) (k:=k0+1) (n:=2) (by omega)
 obtain ⟨W,eW⟩:=Int.eq_ofNat_of_zero_le (show 0≤1+up silk k0 (W0-1) by omega)
 obtain ⟨K,eK⟩:∃ K,up silk (k0+1) 2=K:=⟨_,rfl⟩
 rw [eK] at uK
 obtain ⟨G0,eG0⟩:∃ G0,G0=h++[chB 0 (.slice none 0 0) 0 0]:=⟨_,rfl⟩
 have xG0:Ext h G0:=by rw [eG0];exact .app .refl
 have hG0:G0.length=h.length+1:=by rw [eG0];simp
 have hS0:SpAt G0 id v silk k0:=hS.ext xG0
 obtain ⟨G1,eG1⟩:∃ G1,G1=(G0.set id (spB v silk (k0+1+1))):=⟨_,rfl⟩
 have eG1':(G0.set id (spB v silk (k0+1))).set id (spB v silk (k0+1+1))=G1:=by rw [List.set_set,eG1]
 have xG1:SpE G0 id v silk (k0+1+1) G1:=by rw [eG1];exact (SpE.refl hS0).step (by omega)
 have hG1:G1.length=h.length+1:=by rw [eG1,List.length_set,hG0]
 have g0:G0[h.length]?=some (chB 0 (.slice none 0 0) 0 0):=by rw [eG0];exact get_eq rfl
 unfold chB at eG0
 refine ret_raw func14 rfl (by kernel_rfl) ?_
 have hsp:=@Nat.succ_ne_zero;repeat' (first|simp (disch:=first|exact dqc|fail) only [go_sem,↓reduceIte,hsp,run_from,run_upto,eW,eK,← eG0,eG1',hG1]|refine WP_drw ?_|refine cnd_intro (fun hsp=>?_) fun hsp=>?_)
 have hS1:SpAt G1 id v silk (k0+1+1):=xG1.at hS0
 have hid1:id<G1.length:=by omega
 have gr1:G1[h.length]?=some (chB 0 (.slice none 0 0) 0 0):=xG1.get (by omega) g0
 refine WPS_restF fun Z eZ=>?_
 rw [← WP_seq]
 have kZ0:=congrFun eZ 0
 have kZ2:=congrFun eZ 2
 have kZ6:=congrFun eZ 6
 have kZ7:=congrFun eZ 7
 try simp (disch:=first|exact dqc|fail) only [go_sem,↓reduceIte] at kZ0 kZ2 kZ6 kZ7
 clear eZ
 refine WP_meet (fun fr h'=>Agree [(14,26)] fr Z∧∃ (w:Nat) (s:Int) (k1:Nat),k1≤k0+3∧SpE G0 id v silk k1 h'∧h'[h.length+1]?=some (chB (w:Int) (.slice none 0 0) K s)∧(1≤w∧(w:Int)≤max 2 W0)∧h'.length=h.length+2) ?_ ?_
 ·rw [WP_seq,WP_region]
  have gb:∀ {b:ABlk},(G1++[b])[h.length+1]?=some b:=fun {b}=>get_eq hG1.symm
  by_cases c:K=2
  ·have t1:(K=2)=True:=eq_true c
   obtain ⟨M,eM⟩:∃ M:Nat,max 2 (W:Int)=(M:Int):=⟨max 2 W,by omega⟩
   have um:=up_bd (silk:=silk) (k:=k0+1+1) (n:=(M:Int)-1-1) (by omega)
   have gb2:∀ {a b:ABlk},((G1.set id a)++[b])[h.length+1]?=some b:=fun {a b}=>get_eq (by rw [List.length_set];exact hG1.symm)
   have sl:∀ {a:ABlk},(G1.set id a).length=h.length+1:=fun {a}=>by rw [List.length_set];exact hG1
   have hsp:=@Nat.succ_ne_zero;repeat' (first|simp (disch:=first|exact dqc|fail) only [go_sem,↓reduceIte,hsp,kZ0,kZ2,kZ6,kZ7,t1,gb,gb2,hG1,run_from,sl,eM]|refine WP_drw ?_|refine cnd_intro (fun hsp=>?_) fun hsp=>?_)
   exact ⟨agq,M,_,k0+1+1+1,by omega,(xG1.step (by omega)).app,rfl,by omega⟩
  ·have t1:(K=2)=False:=eq_false c
   have hsp:=@Nat.succ_ne_zero;repeat' (first|simp (disch:=first|exact dqc|fail) only [go_sem,↓reduceIte,hsp,kZ0,kZ2,kZ6,kZ7,t1,gb]|refine WP_drw ?_|refine cnd_intro (fun hsp=>?_) fun hsp=>?_)
   exact ⟨agq,W,0,k0+1+1,by omega,xG1.app,rfl,by omega,hG1⟩
 ·rintro fr2 H2 ⟨hA2,w,s,k1,hk1,x2,g2,hw,hl2⟩
  have y0:=hA2 0 rfl
  have y2:=hA2 2 rfl
  have y6:=hA2 6 rfl
  have y7:=hA2 7 rfl
  try simp (disch:=first|exact dqc|fail) only [go_sem,↓reduceIte,kZ0,kZ2,kZ6,kZ7] at y0 y2 y6 y7
  have hS2:=x2.at hS0
  have hw8:w≤8:=by omega
  have hp:2 ^ w≤256:=by have:=Nat.pow_le_pow_right (show 0<2 by decide) hw8;simpa using this
  have hp0:1≤2 ^ w:=Nat.one_le_two_pow
  have uC:=up_bd (silk:=silk) (k:=k1) (n:=C0-1) (by omega)
  obtain ⟨N,eN⟩:=Int.eq_ofNat_of_zero_le (show 0≤1+up silk k1 (C0-1) by omega)
  have e4:=fun t=>shl_bit (t:=t) (w:=w) (by omega)
  have hsp:=@Nat.succ_ne_zero;repeat' (first|simp (disch:=first|exact dqc|fail) only [go_sem,↓reduceIte,hsp,y0,y2,y6,y7,run_from,eN]|refine WP_drw ?_|refine cnd_intro (fun hsp=>?_) fun hsp=>?_)
  refine WP_count [(30,43)] 0 N (Nat.zero_le _) (fun _ i fr h'=>fr 30=.int .i64 (i:Int)∧∃ (l:List Int) (x:AVal) (k2:Nat),k2≤k1+1+i∧SpE G0 id v silk k2 h'∧h'[h.length+1]?=some (chB (w:Int) x K s)∧Own encI 3 (h.length+2) h' x l∧l.length=i∧Crds w l∧h.length+2≤h'.length) ?_ ?_ ?_
  ·exact ⟨by (simp (disch:=first|exact dqc|fail) only [go_sem,↓reduceIte,Int.natCast_zero];first|done|rfl),[],.slice none 0 0,k1+1,by omega,x2.step (by omega),by rw [List.getElem?_set_ne (by omega)];exact g2,Own.nil,rfl,fun x hx=>by simp at hx,by rw [List.length_set];omega⟩
  ·rintro i fr3 H3 hi0 hi hA3 ⟨c30,l,x,k2,hk2,x3,g3,oX,hl,hC,h3⟩
   have c0:=hA3 0 rfl
   have c6:=hA3 6 rfl
   have c7:=hA3 7 rfl
   have c29:=hA3 29 rfl
   try simp (disch:=first|exact dqc|fail) only [go_sem,↓reduceIte,y0,y6,y7] at c0 c6 c7 c29
   have hlt:((i:Int)<(N:Int))=True:=eq_true (by omega)
   have hS3:=x3.at hS0
   have uy:=up_bd (silk:=silk) (k:=k2) (n:=((2 ^ w:Nat):Int)-1) (by omega)
   have ru:=fun base=>run_upto (base:=base) (n:=((2 ^ w:Nat):Int)-1) hS3 (by omega) (by omega)
   obtain ⟨u,eu⟩:∃ u,up silk k2 (((2 ^ w:Nat):Int)-1)=u:=⟨_,rfl⟩
   obtain ⟨H4,eH4⟩:∃ H4,H4=H3.set id (spB v silk (k2+1)):=⟨_,rfl⟩
   rw [eu,← eH4] at ru
   rw [eu] at uy
   have ox:=oX.one
   have x4:SpE G0 id v silk (k2+1) H4:=by rw [eH4];exact x3.step (by omega)
   have g4:H4[h.length+1]?=some (chB (w:Int) x K s):=by rw [eH4,List.getElem?_set_ne (by omega)];exact g3
   have o4:Own encI 3 (h.length+2) H4 x l:=by rw [eH4];exact oX.set (by omega)
   have h4:h.length+2≤H4.length:=by rw [eH4,List.length_set];exact h3
   obtain ⟨x',H',a1,a2,a3,a4,a5,a6⟩:=o4.append1X (P:=prog) (y:=u) (base:=base) (t:=35) rfl rfl Fc.el35 encI_sc (by omega) h4 (by omega)
   have kp:KeepO encI 3 H4 H':=a6
   have g5:=kp.box (i:=h.length+1) g4
   unfold chB at g3 g4
   have hsp:=@Nat.succ_ne_zero;repeat' (first|simp (disch:=first|exact dqc|fail) only [go_sem,↓reduceIte,hsp,c0,c6,c7,c29,c30,hlt]|refine WP_drw ?_|refine cnd_intro (fun hsp=>?_) fun hsp=>?_)
   refine WPS_go ?_
   refine WP_wild [⟨1,35,32,⟨h.length+1,0,1⟩,x,9⟩] (by kernel_rfl) (by kernel_rfl) (by kernel_rfl) ⟨oX.low_refs,trivial⟩ fun KK hK=>?_
   iterate 12
    rw [TRS_cons]
    refine ⟨by first|(simp (disch:=first|exact dqc|fail) only [go_sem,↓reduceIte,c0,c6,c7,c29,c30,g3,e4,ru,g4,a1,g5,ldsQ_cons,ldsQ_nil,grdQ_cons,grdQ_nil,if_true,Nat.reduceLeDiff];done)|exact trivial,?_⟩
    simp (disch:=first|exact dqc|fail) only [go_sem,↓reduceIte,c0,c6,c7,c29,c30,g3,e4,ru,g4,a1,g5]
   rw [TRS_nil]
   refine ⟨by first|(simp (disch:=first|exact dqc|fail) only [go_sem,↓reduceIte,c0,c6,c7,c29,c30,g3,e4,ru,g4,a1,g5,ldsQ_cons,ldsQ_nil,grdQ_cons,grdQ_nil,if_true,Nat.reduceLeDiff];done)|exact trivial,?_⟩
   subst hK
   have hsp:=@Nat.succ_ne_zero;repeat' (first|simp (disch:=first|exact dqc|fail) only [go_sem,↓reduceIte,hsp,c0,c6,c7,c29,c30]|refine WP_drw ?_|refine cnd_intro (fun hsp=>?_) fun hsp=>?_)
   refine ⟨agq,by omega,l++[u],x',k2+1,by omega,Ext.set (a4 _ (by rw [List.length_set];omega) x4) (by rw [List.length_set];omega),rfl,a2.setBox g5,by simp [hl],fun z hz=>?_,by omega⟩
   rcases List.mem_append.1 hz with hz|hz
   ·exact hC z hz
   ·rw [List.mem_singleton] at hz
    omega
  ·rintro fr3 H3 hA3 ⟨c30,l,x,k2,hk2,x3,g3,oX,hl,hC,h3⟩
   have c0:=hA3 0 rfl
   have c6:=hA3 6 rfl
   have c7:=hA3 7 rfl
   have c29:=hA3 29 rfl
   try simp (disch:=first|exact dqc|fail) only [go_sem,↓reduceIte,y0,y6,y7] at c0 c6 c7 c29
   have hlt:((N:Int)<(N:Int))=False:=eq_false (by omega)
   have gr:H3[h.length]?=some (chB 0 (.slice none 0 0) 0 0):=x3.get (by omega) g0
   have ox:=oX.one
   unfold chB at g3 gr
   have hsp:=@Nat.succ_ne_zero;repeat' (first|simp (disch:=first|exact dqc|fail) only [go_sem,↓reduceIte,hsp,c0,c6,c7,c29,c30,hlt,g3,gr]|refine WP_drw ?_|refine cnd_intro (fun hsp=>?_) fun hsp=>?_)
   rw [eG0] at x3
   exact ⟨w,K,s,l,x,k2,Ext.set (x3.low hid) (by simp),rfl,(oX.setBox gr).low (by omega),hw,by omega,hC⟩
end L3
end Go.AM
namespace Go.AM
open Go.Proofs.Tryz
attribute [-go_sem] put_ne put_same
attribute [local go_sem ↓] put_if
theorem few8:(L3.fewestS 4 [1,2,4,8,1,2]).2.1=1:=by decide +kernel
theorem pap8:L3.PapOk 4 [1,2,4,8,1,2]:=⟨by decide,by decide,by unfold L3.Crds;decide⟩
end Go.AM
namespace Go.AM
open Go.Proofs.Tryz
attribute [-go_sem] put_ne put_same
attribute [local go_sem ↓] put_if
theorem run_Owned {base:Nat} {h:Heap} {v:AVal} {l:List Int} {W k s:Int} (hb:base≤h.length) (hI:Ints h v l) (hl:l.length≤1000) :
  Ret prog raw base (.fn 15 [] []) [L3.chV W v k s] h (fun w H=>Ext h H∧∃ x,w=L3.chV W x k s∧OwnE encI 3 h.length H x l):=by
 have ov:=hI.one
 obtain ⟨G,eG⟩:∃ G,G=h++[L3.chB W v k s]++[L3.chB 0 (.slice none 0 0) 0 0]:=⟨_,rfl⟩
 have xG:Ext h G:=by rw [eG];exact .app (.app .refl)
 have lG:G.length=h.length+2:=by rw [eG];simp
 have g1:G[h.length]?=some (L3.chB W v k s):=by rw [eG];exact get_app (get_eq rfl)
 have g2:G[h.length+1]?=some (L3.chB 0 (.slice none 0 0) 0 0):=by rw [eG];exact get_eq (by simp)
 obtain ⟨x,H1,e1,x1,oX⟩:=run_dupI (base:=base) (h:=G) (by omega) (hI.ext xG) hl
 have ox:=oX.one
 have l1:=x1.len
 have g11:=x1.get g1
 have g12:=x1.get g2
 obtain ⟨H2,eH2⟩:∃ H2,H2=H1.set h.length (L3.chB W x k s):=⟨_,rfl⟩
 have g21:H2[h.length]?=some (L3.chB W x k s):=by rw [eH2,List.getElem?_set_self (by omega)]
 have g22:H2[h.length+1]?=some (L3.chB 0 (.slice none 0 0) 0 0):=by rw [eH2,List.getElem?_set_ne (by omega)];exact g12
 have o2:OwnE encI 3 h.length H2 x l:=by rw [eH2];exact (oX.setBox g11).low (by omega)
 have o3:OwnE encI 3 h.length (H2.set (h.length+1) (L3.chB W x k s)) x l:=o2.setBox g22
 have xf:Ext h (H2.set (h.length+1) (L3.chB W x k s)):=by rw [eH2];exact ((xG.trans x1).set (Nat.le_refl _)).set (by omega)
 have ll:=lt_of_get g22
 unfold L3.chB at eG g1 g2 g11 g12 eH2 g21 g22 o3 xf
 refine ret_raw func15 rfl (by kernel_rfl) ?_
 have hsp:=@Nat.succ_ne_zero;repeat' (first|simp (disch:=first|exact dqb|fail) only [go_sem,↓reduceIte,hsp,← eG,g1,e1,g11,← eH2,g21,g22]|refine WP_drw ?_|refine cnd_intro (fun hsp=>?_) fun hsp=>?_)
 first|exact ⟨xf,x,rfl,o3⟩|exact ⟨x,xf,rfl,o3⟩
def samT (c d:Int × Int):Bool:=decide (c.1=d.1∧c.2=d.2)
theorem run_indexT {base:Nat} {h:Heap} {a:AVal} {l:List (Int × Int)} {c:Int × Int} (hR:Rows Flt.encT h a l) :
  callL prog raw base (.fn 62 [] []) [a,.agg [.int .i64 c.1,.int .i64 c.2]] h=some (.int .i64 (idx (samT c) l),h):=by
 have hb:l.length<2 ^ 60:=hR.1
 have ho:=hR.one
 have hn:=(hR.app (T:=[(⟨.cells [.int .i64 c.1,.int .i64 c.2] 70 false false,0⟩:ABlk)])).len (P:=prog) Fc.el63
 refine callL_run func62 rfl rfl ?_
 have hsp:=@Nat.succ_ne_zero;repeat' (first|simp (disch:=first|exact dqb|fail) only [go_sem,↓reduceIte,hsp,hn]|refine WP_drw ?_|refine cnd_intro (fun hsp=>?_) fun hsp=>?_)
 refine WP_loop (fun σ=>∃ n:Nat,σ.fr 8=.int .i64 (n:Int)∧σ.fr 0=a∧σ.fr 3=.ptr (some ⟨h.length,0,0⟩)∧σ.fr 7=.int .i64 (l.length:Int)∧σ.h=h++[⟨.cells [.int .i64 c.1,.int .i64 c.2] 70 false false,0⟩]∧n≤l.length∧(∀ x ∈ l.take n,samT c x=false)) (fun σ=>match σ.fr 8 with|.int _ x=>(((l.length:Nat):Int)-x).toNat|_=>0) ?_ ?_
 ·refine ⟨0,?_,?_,?_,?_,?_,by omega,?_⟩
  iterate 5 focus (first|rfl|(simp (disch:=first|exact dqb|fail) only [go_sem,↓reduceIte,Int.natCast_zero];first|done|rfl))
  intro x hx;simp at hx
 ·rintro ⟨fr,hp⟩ ⟨n,r8,r0,r3,r7,rh,hi,hP⟩
  dsimp only at r8 r0 r3 r7 rh hi hP
  subst rh
  by_cases hn:n<l.length
  ·have hlt:((n:Int)<(l.length:Int))=True:=eq_true (by omega)
   have hx:l[n]?=some l[n]:=List.getElem?_eq_getElem hn
   have hRx:=hR.app (T:=[(⟨.cells [.int .i64 c.1,.int .i64 c.2] 70 false false,0⟩:ABlk)])
   have had:=hRx.addr (i:=(n:Int)) Fc.el63 Fc.ar63 (by omega) (by omega)
   rw [Int.toNat_natCast] at had
   have hld:loadP prog (h++[(⟨.cells [.int .i64 c.1,.int .i64 c.2] 70 false false,0⟩:ABlk)]) 70 (elAdr a Flt.encT.z n 0)=some (.agg [.int .i64 l[n].1,.int .i64 l[n].2]):=hRx.load Fc.ty70 hx
   by_cases hp:c.1=l[n].1∧c.2=l[n].2
   ·have hp1:samT c l[n]=true:=decide_eq_true hp
    have t2:(c.1=l[n].1∧c.2=l[n].2)=True:=eq_true hp
    have hsp:=@Nat.succ_ne_zero;repeat' (first|simp (disch:=first|exact dqb|fail) only [go_sem,↓reduceIte,hsp,r8,r0,r3,r7,hlt,had,hld,t2]|refine WP_drw ?_|refine cnd_intro (fun hsp=>?_) fun hsp=>?_)
    exact fI (idx_hit (samT c) hn hP hp1).symm
   ·have hp1:samT c l[n]=false:=decide_eq_false hp
    have t2:(c.1=l[n].1∧c.2=l[n].2)=False:=eq_false hp
    have hsp:=@Nat.succ_ne_zero;repeat' (first|simp (disch:=first|exact dqb|fail) only [go_sem,↓reduceIte,hsp,r8,r0,r3,r7,hlt,had,hld,t2]|refine WP_drw ?_|refine cnd_intro (fun hsp=>?_) fun hsp=>?_)
    exact ⟨⟨n+1,by simp,by omega,take_next (samT c) hn hP hp1⟩,by omega⟩
  ·have hlt:((n:Int)<(l.length:Int))=False:=eq_false (by omega)
   obtain rfl:n=l.length:=by omega
   have hsp:=@Nat.succ_ne_zero;repeat' (first|simp (disch:=first|exact dqb|fail) only [go_sem,↓reduceIte,hsp,r8,r0,r3,r7,hlt]|refine WP_drw ?_|refine cnd_intro (fun hsp=>?_) fun hsp=>?_)
   exact fI (idx_miss (samT c) hP).symm
theorem run_containsT {base:Nat} {h:Heap} {a:AVal} {l:List (Int × Int)} {c:Int × Int} (hR:Rows Flt.encT h a l) :
  callL prog raw base (.fn 18 [] []) [a,.agg [.int .i64 c.1,.int .i64 c.2]] h=some (.bool (decide (c ∈ l)),h):=by
 have ho:=hR.one
 have hi:=fun base=>run_indexT (base:=base) (c:=c) (hR.app (T:=[(⟨.cells [.int .i64 c.1,.int .i64 c.2] 70 false false,0⟩:ABlk)]))
 have hm:c ∈ l ↔ l.any (samT c)=true:=by
  rw [List.any_eq_true]
  exact ⟨fun h=>⟨c,h,decide_eq_true ⟨rfl,rfl⟩⟩,fun ⟨d,h1,h2⟩=>by
   have:=of_decide_eq_true h2
   rw [show c=d from Prod.ext this.1 this.2];exact h1⟩
 have h2:=idx_any (samT c) l
 by_cases hc:c ∈ l
 ·have h0:(idx (samT c) l ≥ 0)=True:=eq_true (h2.2 (hm.1 hc))
  rw [decide_eq_true hc]
  refine callL_run func18 rfl rfl ?_
  have hsp:=@Nat.succ_ne_zero;repeat' (first|simp (disch:=first|exact dqb|fail) only [go_sem,↓reduceIte,hsp,hi,h0]|refine WP_drw ?_|refine cnd_intro (fun hsp=>?_) fun hsp=>?_)
  exact fB rfl
 ·have h0:(idx (samT c) l ≥ 0)=False:=eq_false fun q=>hc (hm.2 (h2.1 q))
  rw [decide_eq_false hc]
  refine callL_run func18 rfl rfl ?_
  have hsp:=@Nat.succ_ne_zero;repeat' (first|simp (disch:=first|exact dqb|fail) only [go_sem,↓reduceIte,hsp,hi,h0]|refine WP_drw ?_|refine cnd_intro (fun hsp=>?_) fun hsp=>?_)
  exact fB rfl
end Go.AM
