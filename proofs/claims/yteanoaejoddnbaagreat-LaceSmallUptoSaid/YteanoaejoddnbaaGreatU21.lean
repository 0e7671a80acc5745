/-
  Plain: rows and cards by threads, as the reference has them.
-/
import Derived.Test.YteanoaejoddnbaaGreatU15
import Derived.Test.YteanoaejoddnbaaGreatU20
set_option linter.unusedSimpArgs false
set_option linter.unusedVariables false
namespace Go.AM
theorem bit_out {x T t:Nat} (h:x<2 ^ T) (ht:T≤t):x.testBit t=false:=Nat.testBit_lt_two_pow (Nat.lt_of_lt_of_le h (Nat.pow_le_pow_right (by decide) ht))
theorem sub_iff {T s m:Nat} (hs:s<2 ^ T):(∀ t,t<T→s.testBit t=true→m.testBit t=true) ↔ s &&& m=s:=by
 constructor
 ·intro h
  refine Nat.eq_of_testBit_eq fun t=>?_
  rw [Nat.testBit_and]
  by_cases ht:t<T
  ·cases hb:s.testBit t with
   | false=>rfl
   | true=>rw [h t ht hb];rfl
  ·rw [bit_out hs (by omega)];rfl
 ·intro h t _ hb
  have:=congrArg (fun x=>x.testBit t) h
  simp only [Nat.testBit_and,hb,Bool.true_and] at this
  exact this
theorem agr_iff {T c m s:Nat} (hc:c<2 ^ T) (hs:s<2 ^ T) (hsub:s &&& m=s):(∀ t,t<T→m.testBit t=true→c.testBit t=s.testBit t) ↔ c &&& m=s:=by
 have hb:=(sub_iff (m:=m) hs).2 hsub
 constructor
 ·intro h
  refine Nat.eq_of_testBit_eq fun t=>?_
  rw [Nat.testBit_and]
  by_cases ht:t<T
  ·cases hm:m.testBit t with
   | true=>rw [h t ht hm,Bool.and_true]
   | false =>
    rw [Bool.and_false]
    cases hq:s.testBit t with
    | false=>rfl
    | true=>rw [hb t ht hq] at hm;cases hm
  ·rw [bit_out hc (by omega),bit_out hs (by omega)];rfl
 ·intro h t ht hm
  have:=congrArg (fun x=>x.testBit t) h
  simp only [Nat.testBit_and,hm,Bool.and_true] at this
  exact this
def agrB (L:Lac) (r:Rw3) (k:Nat):Bool:=(List.range L.T.toNat).all fun t=>!r.2.1.toNat.testBit t || ((L.C.getD k 0).toNat.testBit t == r.2.2.toNat.testBit t)
theorem agrB_iff {L:Lac} (hL:LacOk L) {r:Rw3} (hr:r ∈ L.R) {k:Nat} (hk:k<L.C.length):agrB L r k=true ↔ (L.C.getD k 0).toNat &&& r.2.1.toNat=r.2.2.toNat:=by
 have hp:(2:Int) ^ L.T.toNat=((2 ^ L.T.toNat:Nat):Int):=by simp
 have hc:=hL.c _ (getD_mem' (d:=0) hk)
 have hr':=hL.r r hr
 rw [hp] at hc hr'
 rw [← agr_iff (T:=L.T.toNat) (by omega) (by omega) hr'.2.2.2]
 unfold agrB
 simp only [List.all_eq_true,List.mem_range,Bool.or_eq_true,Bool.not_eq_true',beq_iff_eq]
 constructor
 ·intro h t ht hm
  rcases h t ht with q|q
  ·rw [hm] at q;cases q
  ·exact q
 ·intro h t ht
  cases hm:r.2.1.toNat.testBit t with
  | false=>exact .inl rfl
  | true=>exact .inr (h t ht hm)
def fitR (L:Lac) (p k:Nat):Bool:=L.R.all fun r=>!decide (r.1.toNat % L.C.length=p) || agrB L r k
theorem fitR_eq {L:Lac} (hL:LacOk L) {p k:Nat} (hk:k<L.C.length):fitR L p k=fitB L p k:=by
 rw [Bool.eq_iff_iff,fitB_iff]
 unfold fitR
 simp only [List.all_eq_true,Bool.or_eq_true,Bool.not_eq_true',decide_eq_false_iff_not]
 constructor
 ·intro h r hr e
  rcases h r hr with q|q
  ·exact absurd e q
  ·exact (agrB_iff hL hr hk).1 q
 ·intro h r hr
  by_cases e:r.1.toNat % L.C.length=p
  ·exact .inr ((agrB_iff hL hr hk).2 (h r hr e))
  ·exact .inl e
def xplB (L:Lac) (o:List Int):Bool:=L.R.all fun r=>agrB L r (o.getD (r.1.toNat % o.length) 0).toNat
theorem xplB_iff {L:Lac} (hL:LacOk L) {o:List Int} (ho:Ord L.C.length o):xplB L o=true ↔ Xpl L o:=by
 have hn:=hL.n
 rw [xpl_rows (by omega) ho.1]
 unfold xplB
 rw [List.all_eq_true]
 constructor
 ·intro h r hr
  have:=h r hr
  rw [ho.1] at this
  have hm:=Nat.mod_lt r.1.toNat (show 0<L.C.length by omega)
  have hk:=(ord_at ho hm).2
  exact (agrB_iff hL hr (by omega)).1 this
 ·intro h r hr
  rw [ho.1]
  have hm:=Nat.mod_lt r.1.toNat (show 0<L.C.length by omega)
  have hk:=(ord_at ho hm).2
  exact (agrB_iff hL hr (by omega)).2 (h r hr)
def allR (L:Lac):List (List Int):=(ordsF (fun _ _=>true) L.C.length L.C.length []).filter (xplB L)
end Go.AM
namespace Go.AM
open Go.Proofs.Tryz
attribute [-go_sem] put_ne put_same
attribute [local go_sem ↓] put_if
theorem run_off {base:Nat} {h:Heap} {n lo hi:Int}:callL prog raw base (.fn 84 [] []) [.int .i64 n,.int .i64 lo,.int .i64 hi] h=some (.bool (!decide (lo≤n∧n≤hi)),h):=by
 refine callL_run func84 rfl rfl ?_
 by_cases c:n<lo
 ·have t1:(n<lo)=True:=eq_true c
  have hsp:=@Nat.succ_ne_zero;repeat' (first|simp (disch:=first|exact dq|fail) only [go_sem,↓reduceIte,hsp,t1]|refine WP_drw ?_|refine cnd_intro (fun hsp=>?_) fun hsp=>?_)
  exact fB (by rw [decide_eq_false (by omega)];rfl)
 ·have t1:(n<lo)=False:=eq_false c
  by_cases d:n > hi
  ·have t2:(n > hi)=True:=eq_true d
   have hsp:=@Nat.succ_ne_zero;repeat' (first|simp (disch:=first|exact dq|fail) only [go_sem,↓reduceIte,hsp,t1,t2]|refine WP_drw ?_|refine cnd_intro (fun hsp=>?_) fun hsp=>?_)
   exact fB (by rw [decide_eq_false (by omega)];rfl)
  ·have t2:(n > hi)=False:=eq_false d
   have hsp:=@Nat.succ_ne_zero;repeat' (first|simp (disch:=first|exact dq|fail) only [go_sem,↓reduceIte,hsp,t1,t2]|refine WP_drw ?_|refine cnd_intro (fun hsp=>?_) fun hsp=>?_)
   exact fB (by rw [decide_eq_true (by omega)];rfl)
theorem run_sets {base T:Nat} {h:Heap} (hT:T≤20):callL prog raw base (.fn 85 [] []) [.int .i64 (T:Int)] h=some (.int .i64 ((2 ^ T:Nat):Int),h):=by
 refine callL_run func85 rfl rfl ?_
 have hsp:=@Nat.succ_ne_zero;repeat' (first|simp (disch:=first|exact dq|fail) only [go_sem,↓reduceIte,hsp]|refine WP_drw ?_|refine cnd_intro (fun hsp=>?_) fun hsp=>?_)
 refine WP_count [(3,11)] 0 T (Nat.zero_le _) (fun _ i fr H=>fr 4=.int .i64 (i:Int)∧fr 3=.int .i64 ((2 ^ i:Nat):Int)∧H=h) ?_ ?_ ?_
 ·exact ⟨by (simp (disch:=first|exact dq|fail) only [go_sem,↓reduceIte,Int.natCast_zero];first|done|rfl),by simp (disch:=first|exact dq|fail) only [go_sem,↓reduceIte];rfl,rfl⟩
 ·rintro i fr H hi0 hi hA ⟨r4,r3,rfl⟩
  have q0:=hA 0 rfl
  have q2:=hA 2 rfl
  try simp (disch:=first|exact dq|fail) only [go_sem,↓reduceIte] at q0 q2
  have hlt:((i:Int)<(T:Int))=True:=eq_true (by omega)
  have hp:2 ^ i≤2 ^ 20:=Nat.pow_le_pow_right (by decide) (by omega)
  have hm:binA prog .mul 3 (.int .i64 2) (.int .i64 ((2 ^ i:Nat):Int))=some (.int .i64 ((2 ^ (i+1):Nat):Int)):=by
   rw [Nat.pow_succ]
   generalize 2 ^ i=p at hp
   rw [bin_mul,wrap64 (by omega) (by omega)]
   congr 2;omega
  have hsp:=@Nat.succ_ne_zero;repeat' (first|simp (disch:=first|exact dq|fail) only [go_sem,↓reduceIte,hsp,r4,r3,q0,q2,hlt,hm]|refine WP_drw ?_|refine cnd_intro (fun hsp=>?_) fun hsp=>?_)
  exact ⟨agq,by omega⟩
 ·rintro fr H hA ⟨r4,r3,rfl⟩
  have q0:=hA 0 rfl
  have q2:=hA 2 rfl
  try simp (disch:=first|exact dq|fail) only [go_sem,↓reduceIte] at q0 q2
  have hlt:((T:Int)<(T:Int))=False:=eq_false (by omega)
  have hsp:=@Nat.succ_ne_zero;repeat' (first|simp (disch:=first|exact dq|fail) only [go_sem,↓reduceIte,hsp,r4,r3,q0,q2,hlt]|refine WP_drw ?_|refine cnd_intro (fun hsp=>?_) fun hsp=>?_)
  exact fI rfl
theorem run_lifts {base x k:Nat} {h:Heap} (hx:x<4611686018427387904) (hk:k≤100):callL prog raw base (.fn 97 [] []) [.int .i64 (x:Int),.int .i64 (k:Int)] h=some (.bool (x.testBit k),h):=by
 refine callL_run func97 rfl rfl ?_
 have hsp:=@Nat.succ_ne_zero;repeat' (first|simp (disch:=first|exact dq|fail) only [go_sem,↓reduceIte,hsp]|refine WP_drw ?_|refine cnd_intro (fun hsp=>?_) fun hsp=>?_)
 refine WP_count [(0,0),(5,12)] 0 k (Nat.zero_le _) (fun _ i fr H=>fr 5=.int .i64 (i:Int)∧fr 0=.int .i64 ((x / 2 ^ i:Nat):Int)∧H=h) ?_ ?_ ?_
 ·exact ⟨by (simp (disch:=first|exact dq|fail) only [go_sem,↓reduceIte,Int.natCast_zero];first|done|rfl),by simp (disch:=first|exact dq|fail) only [go_sem,↓reduceIte];simp,rfl⟩
 ·rintro i fr H hi0 hi hA ⟨r5,r0,rfl⟩
  have q1:=hA 1 rfl
  have q4:=hA 4 rfl
  try simp (disch:=first|exact dq|fail) only [go_sem,↓reduceIte] at q1 q4
  have hlt:((i:Int)<(k:Int))=True:=eq_true (by omega)
  have hd:x / 2 ^ i≤x:=Nat.div_le_self _ _
  have hm:binA prog .quo 3 (.int .i64 ((x / 2 ^ i:Nat):Int)) (.int .i64 2)=some (.int .i64 ((x / 2 ^ (i+1):Nat):Int)):=by
   rw [show x / 2 ^ (i+1)=x / 2 ^ i / 2 by rw [Nat.pow_succ,Nat.div_div_eq_div_mul]]
   generalize x / 2 ^ i=y at hd
   show some (AVal.int .i64 (IntKind.i64.wrap ((y:Int).tdiv 2)))=_
   have e:((y:Int).tdiv 2)=((y / 2:Nat):Int):=rfl
   rw [e,wrap64 (by omega) (by omega)]
  have hsp:=@Nat.succ_ne_zero;repeat' (first|simp (disch:=first|exact dq|fail) only [go_sem,↓reduceIte,hsp,r5,r0,q1,q4,hlt,hm]|refine WP_drw ?_|refine cnd_intro (fun hsp=>?_) fun hsp=>?_)
  exact ⟨agq,by omega⟩
 ·rintro fr H hA ⟨r5,r0,rfl⟩
  have q1:=hA 1 rfl
  have q4:=hA 4 rfl
  try simp (disch:=first|exact dq|fail) only [go_sem,↓reduceIte] at q1 q4
  have hlt:((k:Int)<(k:Int))=False:=eq_false (by omega)
  have hr:=remN (x:=((x / 2 ^ k:Nat):Int)) (n:=2) (Int.natCast_nonneg _) (by omega)
  rw [Int.toNat_natCast,show ((2:Nat):Int)=2 from rfl] at hr
  have hsp:=@Nat.succ_ne_zero;repeat' (first|simp (disch:=first|exact dq|fail) only [go_sem,↓reduceIte,hsp,r5,r0,q1,q4,hlt,hr]|refine WP_drw ?_|refine cnd_intro (fun hsp=>?_) fun hsp=>?_)
  refine fB ?_
  rw [Nat.testBit_eq_decide_div_mod_eq]
  exact decide_eq_decide.2 (by omega)
set_option maxHeartbeats 1000000 in
theorem run_rtwice {base:Nat} {h:Heap} {v:AVal} {l:List Int} (hI:Ints h v l):callL prog raw base (.fn 20 [] []) [v] h=some (.bool (twB l),h):=by
 have hlb:=hI.1.1
 have ov:=hI.one
 have hl:=lenI hI
 refine callL_run func20 rfl rfl ?_
 have hsp:=@Nat.succ_ne_zero;repeat' (first|simp (disch:=first|exact dq|fail) only [go_sem,↓reduceIte,hsp]|refine WP_drw ?_|refine cnd_intro (fun hsp=>?_) fun hsp=>?_)
 refine WP_count [(2,24)] 0 l.length (Nat.zero_le _) (fun _ i fr H=>fr 3=.int .i64 (i:Int)∧H=h∧(l.take i).Nodup) ?_ ?_ ?_
 ·exact ⟨by (simp (disch:=first|exact dq|fail) only [go_sem,↓reduceIte,Int.natCast_zero];first|done|rfl),rfl,by simp⟩
 ·rintro i fr H hi0 hi hA ⟨r3,rfl,hn⟩
  have q0:=hA 0 rfl
  try simp (disch:=first|exact dq|fail) only [go_sem,↓reduceIte] at q0
  have hlt:((i:Int)<(l.length:Int))=True:=eq_true (by omega)
  have ai:=adrI (i:=(i:Int)) (by omega) hI (by omega)
  rw [Int.toNat_natCast] at ai
  have li:=loadI hI hi
  have hsp:=@Nat.succ_ne_zero;repeat' (first|simp (disch:=first|exact dq|fail) only [go_sem,↓reduceIte,hsp,r3,q0,hl,hlt]|refine WP_drw ?_|refine cnd_intro (fun hsp=>?_) fun hsp=>?_)
  refine WP_count [(2,2),(4,24)] 0 i (Nat.zero_le _) (fun _ j fr K=>fr 4=.int .i64 (j:Int)∧K=H∧∀ m,m<j→l.getD i 0 ≠ l.getD m 0) ?_ ?_ ?_
  ·exact ⟨by (simp (disch:=first|exact dq|fail) only [go_sem,↓reduceIte,Int.natCast_zero];first|done|rfl),rfl,fun m hm=>by omega⟩
  ·rintro j fr2 K hj0 hj hA2 ⟨r4,rfl,hd⟩
   have d0:=hA2 0 rfl
   have d3:=hA2 3 rfl
   try simp (disch:=first|exact dq|fail) only [go_sem,↓reduceIte,q0] at d0 d3
   have hlt2:((j:Int)<(i:Int))=True:=eq_true (by omega)
   have aj:=adrI (i:=(j:Int)) (by omega) hI (by omega)
   rw [Int.toNat_natCast] at aj
   have lj:=loadI hI (i:=j) (by omega)
   by_cases c:l.getD i 0=l.getD j 0
   ·have t1:(l.getD i 0=l.getD j 0)=True:=eq_true c
    have hsp:=@Nat.succ_ne_zero;repeat' (first|simp (disch:=first|exact dq|fail) only [go_sem,↓reduceIte,hsp,r4,r3,d0,d3,q0,hlt2,ai,li,aj,lj,t1]|refine WP_drw ?_|refine cnd_intro (fun hsp=>?_) fun hsp=>?_)
    refine fB ?_
    unfold twB
    refine (decide_eq_true ?_).symm
    intro hN
    rw [getD_at hi,getD_at (show j<l.length by omega)] at c
    have:=nodup_inj hN _ _ c
    omega
   ·have t1:(l.getD i 0=l.getD j 0)=False:=eq_false c
    have hsp:=@Nat.succ_ne_zero;repeat' (first|simp (disch:=first|exact dq|fail) only [go_sem,↓reduceIte,hsp,r4,r3,d0,d3,q0,hlt2,ai,li,aj,lj,t1]|refine WP_drw ?_|refine cnd_intro (fun hsp=>?_) fun hsp=>?_)
    refine ⟨agq,by omega,fun m hm=>?_⟩
    by_cases e:m=j
    ·rw [e];exact c
    ·exact hd m (by omega)
  ·rintro fr2 K hA2 ⟨r4,rfl,hd⟩
   have d0:=hA2 0 rfl
   have d3:=hA2 3 rfl
   try simp (disch:=first|exact dq|fail) only [go_sem,↓reduceIte,q0] at d0 d3
   have hlt2:((i:Int)<(i:Int))=False:=eq_false (by omega)
   have hsp:=@Nat.succ_ne_zero;repeat' (first|simp (disch:=first|exact dq|fail) only [go_sem,↓reduceIte,hsp,r4,r3,d0,d3,q0,hlt2]|refine WP_drw ?_|refine cnd_intro (fun hsp=>?_) fun hsp=>?_)
   refine ⟨agq,by omega,?_⟩
   rw [take_succ' hi,nodup_snoc]
   refine ⟨hn,fun hm=>?_⟩
   obtain ⟨m,hm1,hm2⟩:=List.mem_iff_getElem.1 hm
   rw [List.length_take] at hm1
   rw [List.getElem_take] at hm2
   exact hd m (by omega) (by rw [← hm2,getD_at (show m<l.length by omega)])
 ·rintro fr H hA ⟨r3,rfl,hn⟩
  have q0:=hA 0 rfl
  try simp (disch:=first|exact dq|fail) only [go_sem,↓reduceIte] at q0
  have hlt:((l.length:Int)<(l.length:Int))=False:=eq_false (by omega)
  rw [List.take_length] at hn
  have hsp:=@Nat.succ_ne_zero;repeat' (first|simp (disch:=first|exact dq|fail) only [go_sem,↓reduceIte,hsp,r3,q0,hl,hlt]|refine WP_drw ?_|refine cnd_intro (fun hsp=>?_) fun hsp=>?_)
  exact fB (by unfold twB;rw [decide_eq_false (fun q=>q hn)])
theorem run_rordered {base n:Nat} {h:Heap} {v:AVal} {l:List Int} (hI:Ints h v l) (hn:n≤100000):callL prog raw base (.fn 53 [] []) [v,.int .i64 (n:Int)] h=some (.int .i64 (ordL l n),h):=by
 have hlb:=hI.1.1
 have ov:=hI.one
 have hl:=lenI hI
 have htw:=fun base=>run_rtwice (base:=base) hI
 refine callL_run func53 rfl rfl ?_
 by_cases c:l.length=n
 ·have t1:((l.length:Int)=(n:Int))=True:=eq_true (by omega)
  have hsp:=@Nat.succ_ne_zero;repeat' (first|simp (disch:=first|exact dq|fail) only [go_sem,↓reduceIte,hsp,hl,t1]|refine WP_drw ?_|refine cnd_intro (fun hsp=>?_) fun hsp=>?_)
  refine WP_count [(4,21)] 0 n (Nat.zero_le _) (fun _ i fr H=>fr 5=.int .i64 (i:Int)∧H=h∧(l.take i).all (fun k=>decide (0≤k∧k≤(n:Int)-1))=true) ?_ ?_ ?_
  ·exact ⟨by (simp (disch:=first|exact dq|fail) only [go_sem,↓reduceIte,Int.natCast_zero];first|done|rfl),rfl,by simp⟩
  ·rintro i fr H hi0 hi hA ⟨r5,rfl,ha⟩
   have q0:=hA 0 rfl
   have q1:=hA 1 rfl
   try simp (disch:=first|exact dq|fail) only [go_sem,↓reduceIte] at q0 q1
   have hlt:((i:Int)<(n:Int))=True:=eq_true (by omega)
   have ai:=adrI (i:=(i:Int)) (by omega) hI (by omega)
   rw [Int.toNat_natCast] at ai
   have li:=loadI hI (i:=i) (by omega)
   have hx:l[i]?=some (l.getD i 0):=getD_some (by omega)
   have ho:=fun base=>run_off (base:=base) (h:=H) (n:=l.getD i 0) (lo:=0) (hi:=(n:Int)-1)
   by_cases d:0≤l.getD i 0∧l.getD i 0≤(n:Int)-1
   ·rw [decide_eq_true d] at ho
    have hsp:=@Nat.succ_ne_zero;repeat' (first|simp (disch:=first|exact dq|fail) only [go_sem,↓reduceIte,hsp,r5,q0,q1,hlt,ai,li,ho,Bool.not_true]|refine WP_drw ?_|refine cnd_intro (fun hsp=>?_) fun hsp=>?_)
    exact ⟨agq,by omega,all_take hx ha (decide_eq_true d)⟩
   ·rw [decide_eq_false d] at ho
    have hsp:=@Nat.succ_ne_zero;repeat' (first|simp (disch:=first|exact dq|fail) only [go_sem,↓reduceIte,hsp,r5,q0,q1,hlt,ai,li,ho,Bool.not_false]|refine WP_drw ?_|refine cnd_intro (fun hsp=>?_) fun hsp=>?_)
    refine fI ?_
    unfold ordL
    rw [if_neg (by omega),if_pos (by rw [all_no hx (decide_eq_false d)];simp)]
  ·rintro fr H hA ⟨r5,rfl,ha⟩
   have q0:=hA 0 rfl
   have q1:=hA 1 rfl
   try simp (disch:=first|exact dq|fail) only [go_sem,↓reduceIte] at q0 q1
   have hlt:((n:Int)<(n:Int))=False:=eq_false (by omega)
   rw [← c,List.take_length] at ha
   have u1:¬ ((l.length:Int) ≠ (n:Int)):=by omega
   cases e:twB l with
   | true =>
    rw [e] at htw
    have hsp:=@Nat.succ_ne_zero;repeat' (first|simp (disch:=first|exact dq|fail) only [go_sem,↓reduceIte,hsp,r5,q0,q1,hlt,htw]|refine WP_drw ?_|refine cnd_intro (fun hsp=>?_) fun hsp=>?_)
    refine fI ?_
    unfold ordL
    rw [if_neg u1,if_neg (by rw [← c,ha];simp),if_pos e]
   | false =>
    rw [e] at htw
    have hsp:=@Nat.succ_ne_zero;repeat' (first|simp (disch:=first|exact dq|fail) only [go_sem,↓reduceIte,hsp,r5,q0,q1,hlt,htw]|refine WP_drw ?_|refine cnd_intro (fun hsp=>?_) fun hsp=>?_)
    refine fI ?_
    unfold ordL
    rw [if_neg u1,if_neg (by rw [← c,ha];simp),if_neg (by rw [e];simp)]
 ·have t1:((l.length:Int)=(n:Int))=False:=eq_false (by omega)
  have hsp:=@Nat.succ_ne_zero;repeat' (first|simp (disch:=first|exact dq|fail) only [go_sem,↓reduceIte,hsp,hl,t1]|refine WP_drw ?_|refine cnd_intro (fun hsp=>?_) fun hsp=>?_)
  refine fI ?_
  unfold ordL
  rw [if_pos (by omega)]
end Go.AM
namespace Go.AM
open Go.Proofs.Tryz
attribute [-go_sem] put_ne put_same
attribute [local go_sem ↓] put_if
abbrev rcB (T:Int) (cv rv:AVal):ABlk:=⟨.cells [.int .i64 T,cv,rv] 85 false false,0⟩
abbrev rrB (r:Rw3):ABlk:=⟨.cells [.int .i64 r.1,.int .i64 r.2.1,.int .i64 r.2.2] 90 false false,0⟩
section
variable {h:Heap} {rv:AVal} {R:List Rw3} {i:Nat} {r:Rw3}
theorem rrow_ad (hR:Rows encR h rv R) (hi:i<R.length):indexAddrA prog 83 rv (.int .i64 (i:Int))=some (elAdr rv encR.z i 0):=by
 have:=hR.addr (P:=prog) (i:=(i:Int)) Fc.el83 Fc.ar83 (by omega) (by omega)
 rwa [Int.toNat_natCast] at this
theorem rrow_f0 (hR:Rows encR h rv R) (hi:i<R.length):fieldAddrA prog 90 (elAdr rv encR.z i 0) 0=some (elAdr rv encR.z i 0):=elAdr_field (P:=prog) (i:=i) (o:=0) (off:=0) (q:=false) (n:=1) hR hi (by kernel_rfl) (by decide)
theorem rrow_f1 (hR:Rows encR h rv R) (hi:i<R.length):fieldAddrA prog 90 (elAdr rv encR.z i 0) 1=some (elAdr rv encR.z i 1):=elAdr_field (P:=prog) (i:=i) (o:=0) (off:=1) (q:=false) (n:=1) hR hi (by kernel_rfl) (by decide)
theorem rrow_c0 (hR:Rows encR h rv R) (hx:R[i]?=some r):loadP prog h 3 (elAdr rv encR.z i 0)=some (.int .i64 r.1):=hR.cell (P:=prog) Fc.ty3 hx (o:=0) (a:=.int .i64 r.1) rfl
theorem rrow_c1 (hR:Rows encR h rv R) (hx:R[i]?=some r):loadP prog h 3 (elAdr rv encR.z i 1)=some (.int .i64 r.2.1):=hR.cell (P:=prog) Fc.ty3 hx (o:=1) (a:=.int .i64 r.2.1) rfl
theorem rrow_ld (hR:Rows encR h rv R) (hx:R[i]?=some r):loadP prog h 90 (elAdr rv encR.z i 0)=some (.agg [.int .i64 r.1,.int .i64 r.2.1,.int .i64 r.2.2]):=hR.load (P:=prog) Fc.ty90 hx
end
theorem setB_off {T x:Int}:(!decide (0≤x∧x≤2 ^ T.toNat-1))=!setB T x:=rfl
set_option maxRecDepth 100000 in
set_option maxHeartbeats 4000000 in
theorem run_rcheck {base:Nat} {h:Heap} {v:AVal} {L:Lac} (hL:LacAt h v L) (hcl:L.C.length≤1000) (hrl:L.R.length≤1000):callL prog raw base (.fn 51 [] []) [v] h=some (.int .i64 (chkL L),h):=by
 obtain ⟨cv,rv,rfl,hC,hR⟩:=hL
 have o1:=hC.one
 have o2:=hR.one
 obtain ⟨G,eG⟩:∃ G,G=h++[rcB L.T cv rv]:=⟨_,rfl⟩
 have xG:Ext h G:=by rw [eG];exact .app .refl
 have g0:G[h.length]?=some (rcB L.T cv rv):=by rw [eG];exact get_eq rfl
 have iC:=hC.ext xG
 have iR:=hR.ext xG
 have hn1:=lenI iC
 have hn2:=iR.len (P:=prog) Fc.el83
 have of0:=fun base=>run_off (base:=base) (h:=G) (n:=L.T) (lo:=1) (hi:=8)
 unfold rcB at eG g0
 refine callL_run func51 rfl rfl ?_
 by_cases c0:1≤L.T∧L.T≤8
 ·rw [decide_eq_true c0] at of0
  have of1:=fun base=>run_off (base:=base) (h:=G) (n:=(L.C.length:Int)) (lo:=1) (hi:=7)
  by_cases c1:1≤(L.C.length:Int)∧(L.C.length:Int)≤7
  ·rw [decide_eq_true c1] at of1
   by_cases c2:(L.R.length:Int) > 12
   ·have t2:((L.R.length:Int) > 12)=True:=eq_true c2
    have hsp:=@Nat.succ_ne_zero;repeat' (first|simp (disch:=first|exact dq|fail) only [go_sem,↓reduceIte,hsp,← eG,g0,of0,Bool.not_true,hn1,of1,hn2,t2]|refine WP_drw ?_|refine cnd_intro (fun hsp=>?_) fun hsp=>?_)
    refine fI ?_ xG
    unfold chkL
    rw [if_neg (by simpa using c0),if_pos (.inr c2)]
   ·have t2:((L.R.length:Int) > 12)=False:=eq_false c2
    have u2:¬ (¬ (1≤(L.C.length:Int)∧(L.C.length:Int)≤7) ∨ (L.R.length:Int) > 12):=by omega
    have u0:¬ ¬ (1≤L.T∧L.T≤8):=fun q=>q c0
    obtain ⟨T,eT⟩:=Int.eq_ofNat_of_zero_le (show 0≤L.T by omega)
    have hs:=fun base=>run_sets (base:=base) (T:=T) (h:=G) (by omega)
    obtain ⟨W,eW⟩:∃ W:Int,W=2 ^ L.T.toNat-1:=⟨_,rfl⟩
    have hW:((2 ^ T:Nat):Int)-1=W:=by rw [eW,eT,Int.toNat_natCast];simp
    have hp:2 ^ T≤2 ^ 8:=Nat.pow_le_pow_right (by decide) (by omega)
    have hp1:=Nat.one_le_two_pow (n:=T)
    have hsb:∀ x,setB L.T x=decide (0≤x∧x≤W):=fun x=>by rw [eW];rfl
    obtain ⟨P2,eP2⟩:∃ P2,P2=2 ^ T:=⟨_,rfl⟩
    rw [← eP2] at hs hW hp hp1
    rw [← eT] at hs
    have hsp:=@Nat.succ_ne_zero;repeat' (first|simp (disch:=first|exact dq|fail) only [go_sem,↓reduceIte,hsp,← eG,g0,of0,Bool.not_true,hn1,of1,hn2,t2,hs,hW]|refine WP_drw ?_|refine cnd_intro (fun hsp=>?_) fun hsp=>?_)
    refine WP_count [(2,2),(4,41)] 0 L.C.length (Nat.zero_le _) (fun _ i fr H=>fr 4=.int .i64 (i:Int)∧H=G∧(L.C.take i).all (setB L.T)=true) ?_ ?_ ?_
    ·exact ⟨by (simp (disch:=first|exact dq|fail) only [go_sem,↓reduceIte,Int.natCast_zero];first|done|rfl),rfl,by simp⟩
    ·rintro i fr H hi0 hi hA ⟨r4,rfl,ha⟩
     have q1:=hA 1 rfl
     have q3:=hA 3 rfl
     try simp (disch:=first|exact dq|fail) only [go_sem,↓reduceIte] at q1 q3
     have hlt:((i:Int)<(L.C.length:Int))=True:=eq_true (by omega)
     have ai:=adrI (i:=(i:Int)) (by omega) iC (by omega)
     rw [Int.toNat_natCast] at ai
     have li:=loadI iC hi
     have hx:L.C[i]?=some (L.C.getD i 0):=getD_some hi
     have ho:=fun base=>run_off (base:=base) (h:=H) (n:=L.C.getD i 0) (lo:=0) (hi:=W)
     rw [← hsb] at ho
     cases d:setB L.T (L.C.getD i 0) with
     | true =>
      rw [d] at ho
      have hsp:=@Nat.succ_ne_zero;repeat' (first|simp (disch:=first|exact dq|fail) only [go_sem,↓reduceIte,hsp,r4,q1,q3,g0,hn1,hlt,ai,li,ho,Bool.not_true]|refine WP_drw ?_|refine cnd_intro (fun hsp=>?_) fun hsp=>?_)
      exact ⟨agq,by omega,all_take hx ha d⟩
     | false =>
      rw [d] at ho
      have hsp:=@Nat.succ_ne_zero;repeat' (first|simp (disch:=first|exact dq|fail) only [go_sem,↓reduceIte,hsp,r4,q1,q3,g0,hn1,hlt,ai,li,ho,Bool.not_false]|refine WP_drw ?_|refine cnd_intro (fun hsp=>?_) fun hsp=>?_)
      refine fI ?_ xG
      unfold chkL
      rw [if_neg u0,if_neg u2,if_pos (.inl (by rw [all_no hx d];simp))]
    ·rintro fr H hA ⟨r4,rfl,ha⟩
     have q1:=hA 1 rfl
     have q3:=hA 3 rfl
     try simp (disch:=first|exact dq|fail) only [go_sem,↓reduceIte] at q1 q3
     have hlt:((L.C.length:Int)<(L.C.length:Int))=False:=eq_false (by omega)
     rw [List.take_length] at ha
     have hsp:=@Nat.succ_ne_zero;repeat' (first|simp (disch:=first|exact dq|fail) only [go_sem,↓reduceIte,hsp,r4,q1,q3,g0,hn1,hlt]|refine WP_drw ?_|refine cnd_intro (fun hsp=>?_) fun hsp=>?_)
     refine WP_count [(2,2),(5,65)] 0 L.R.length (Nat.zero_le _) (fun _ i fr K=>fr 5=.int .i64 (i:Int)∧K=H∧(L.R.take i).all (fun r=>decide (0≤r.1∧r.1≤999) && setB L.T r.2.1)=true) ?_ ?_ ?_
     ·exact ⟨by (simp (disch:=first|exact dq|fail) only [go_sem,↓reduceIte,Int.natCast_zero];first|done|rfl),rfl,by simp⟩
     ·rintro i fr2 K hi0 hi hA2 ⟨r5,rfl,ha2⟩
      have d1:=hA2 1 rfl
      have d3:=hA2 3 rfl
      try simp (disch:=first|exact dq|fail) only [go_sem,↓reduceIte,q1,q3] at d1 d3
      have hlt2:((i:Int)<(L.R.length:Int))=True:=eq_true (by omega)
      obtain ⟨r,er⟩:∃ r,r=L.R[i]:=⟨_,rfl⟩
      have hx:L.R[i]?=some r:=by rw [er];exact List.getElem?_eq_getElem hi
      have a1:=rrow_ad iR hi
      have a2:=rrow_f0 iR hi
      have a3:=rrow_f1 iR hi
      have b1:=rrow_c0 iR hx
      have b2:=rrow_c1 iR hx
      have h1:=fun base=>run_off (base:=base) (h:=K) (n:=r.1) (lo:=0) (hi:=999)
      have h2:=fun base=>run_off (base:=base) (h:=K) (n:=r.2.1) (lo:=0) (hi:=W)
      rw [← hsb] at h2
      cases w1:decide (0≤r.1∧r.1≤999) with
      | false =>
       rw [w1] at h1
       have hsp:=@Nat.succ_ne_zero;repeat' (first|simp (disch:=first|exact dq|fail) only [go_sem,↓reduceIte,hsp,r5,d1,d3,q1,q3,g0,hn2,hlt2,a1,a2,b1,h1,Bool.not_false]|refine WP_drw ?_|refine cnd_intro (fun hsp=>?_) fun hsp=>?_)
       refine fI ?_ xG
       unfold chkL
       rw [if_neg u0,if_neg u2,if_pos (.inr (by rw [all_no hx (by rw [w1];rfl)];simp))]
      | true =>
       rw [w1] at h1
       cases w2:setB L.T r.2.1 with
       | false =>
        rw [w2] at h2
        have hsp:=@Nat.succ_ne_zero;repeat' (first|simp (disch:=first|exact dq|fail) only [go_sem,↓reduceIte,hsp,r5,d1,d3,q1,q3,g0,hn2,hlt2,a1,a2,a3,b1,b2,h1,h2,Bool.not_true,Bool.not_false]|refine WP_drw ?_|refine cnd_intro (fun hsp=>?_) fun hsp=>?_)
        refine fI ?_ xG
        unfold chkL
        rw [if_neg u0,if_neg u2,if_pos (.inr (by rw [all_no hx (by rw [w1,w2];rfl)];simp))]
       | true =>
        rw [w2] at h2
        have hsp:=@Nat.succ_ne_zero;repeat' (first|simp (disch:=first|exact dq|fail) only [go_sem,↓reduceIte,hsp,r5,d1,d3,q1,q3,g0,hn2,hlt2,a1,a2,a3,b1,b2,h1,h2,Bool.not_true]|refine WP_drw ?_|refine cnd_intro (fun hsp=>?_) fun hsp=>?_)
        exact ⟨agq,by omega,all_take hx ha2 (by rw [w1,w2];rfl)⟩
     ·rintro fr2 K hA2 ⟨r5,rfl,ha2⟩
      have d1:=hA2 1 rfl
      have d3:=hA2 3 rfl
      try simp (disch:=first|exact dq|fail) only [go_sem,↓reduceIte,q1,q3] at d1 d3
      have hlt2:((L.R.length:Int)<(L.R.length:Int))=False:=eq_false (by omega)
      rw [List.take_length] at ha2
      have u3:¬ (¬ (L.C.all (setB L.T))=true ∨ ¬ (L.R.all fun r=>decide (0≤r.1∧r.1≤999) && setB L.T r.2.1)=true):=by rw [ha,ha2];simp
      have hsp:=@Nat.succ_ne_zero;repeat' (first|simp (disch:=first|exact dq|fail) only [go_sem,↓reduceIte,hsp,r5,d1,d3,q1,q3,g0,hn2,hlt2]|refine WP_drw ?_|refine cnd_intro (fun hsp=>?_) fun hsp=>?_)
      refine WP_count [(2,2),(6,98)] 0 L.R.length (Nat.zero_le _) (fun _ i fr K2=>fr 6=.int .i64 (i:Int)∧Ext K K2∧(L.R.take i).all (fun r=>setB L.T r.2.2 && subB r.2.2 r.2.1)=true) ?_ ?_ ?_
      ·exact ⟨by (simp (disch:=first|exact dq|fail) only [go_sem,↓reduceIte,Int.natCast_zero];first|done|rfl),.refl,by simp⟩
      ·rintro i fr3 K2 hi0 hi hA3 ⟨r6,xK,ha3⟩
       have z1:=hA3 1 rfl
       have z3:=hA3 3 rfl
       try simp (disch:=first|exact dq|fail) only [go_sem,↓reduceIte,d1,d3] at z1 z3
       have hlt3:((i:Int)<(L.R.length:Int))=True:=eq_true (by omega)
       obtain ⟨r,er⟩:∃ r,r=L.R[i]:=⟨_,rfl⟩
       have hx:L.R[i]?=some r:=by rw [er];exact List.getElem?_eq_getElem hi
       have hmk:=List.all_eq_true.1 ha2 r (List.mem_of_getElem? hx)
       rw [Bool.and_eq_true,hsb,decide_eq_true_eq,decide_eq_true_eq] at hmk
       have iR2:=iR.ext xK
       have a1:=rrow_ad iR2 hi
       have b1:=rrow_ld iR2 hx
       have hn2':=iR2.len (P:=prog) Fc.el83
       have g2:=xK.get g0
       obtain ⟨K3,eK3⟩:∃ K3,K3=K2++[rrB r]:=⟨_,rfl⟩
       have x3:Ext K2 K3:=by rw [eK3];exact .app .refl
       have g3:K3[K2.length]?=some (rrB r):=by rw [eK3];exact get_eq rfl
       have g03:=x3.get g2
       have h1:=fun base=>run_off (base:=base) (h:=K3) (n:=r.2.2) (lo:=0) (hi:=W)
       rw [← hsb] at h1
       have xf:=(xG.trans xK).trans x3
       have lK2:=(xG.trans xK).len
       unfold rrB at eK3 g3
       cases w1:setB L.T r.2.2 with
       | false =>
        rw [w1] at h1
        have hsp:=@Nat.succ_ne_zero;repeat' (first|simp (disch:=first|exact dq|fail) only [go_sem,↓reduceIte,hsp,r6,z1,z3,d1,d3,q1,q3,g2,hn2',hlt3,a1,b1,← eK3,g3,h1,Bool.not_false]|refine WP_drw ?_|refine cnd_intro (fun hsp=>?_) fun hsp=>?_)
        refine fI ?_ xf
        unfold chkL
        rw [if_neg u0,if_neg u2,if_neg u3,if_pos (by rw [all_no hx (by rw [w1];rfl)];simp)]
       | true =>
        rw [w1] at h1
        have hsw:=w1
        rw [hsb,decide_eq_true_eq] at hsw
        obtain ⟨mk,emk⟩:=Int.eq_ofNat_of_zero_le hmk.2.1
        obtain ⟨sw,esw⟩:=Int.eq_ofNat_of_zero_le hsw.1
        rw [esw] at hsw
        rw [emk] at hmk
        rw [esw] at h1
        rw [emk,esw] at g3
        have hsT:sw<2 ^ T:=by rw [← eP2];omega
        have hsp:=@Nat.succ_ne_zero;repeat' (first|simp (disch:=first|exact dq|fail) only [go_sem,↓reduceIte,hsp,r6,z1,z3,d1,d3,q1,q3,g2,hn2',hlt3,a1,b1,← eK3,g3,h1,Bool.not_true]|refine WP_drw ?_|refine cnd_intro (fun hsp=>?_) fun hsp=>?_)
        refine WP_count [(2,2),(8,98)] 0 T (Nat.zero_le _) (fun _ k fr K4=>fr 8=.int .i64 (k:Int)∧K4=K3∧∀ m,m<k→sw.testBit m=true→mk.testBit m=true) ?_ ?_ ?_
        ·exact ⟨by (simp (disch:=first|exact dq|fail) only [go_sem,↓reduceIte,Int.natCast_zero];first|done|rfl),rfl,fun m hm=>by omega⟩
        ·rintro k fr4 K4 hk0 hk hA4 ⟨r8,rfl,hm⟩
         have y1:=hA4 1 rfl
         have y3:=hA4 3 rfl
         have y6:=hA4 6 rfl
         have y7:=hA4 7 rfl
         try simp (disch:=first|exact dq|fail) only [go_sem,↓reduceIte,z1,z3] at y1 y3 y6 y7
         have hlt4:((k:Int)<L.T)=True:=eq_true (by omega)
         have l1:=fun base=>run_lifts (base:=base) (h:=K4) (x:=sw) (k:=k) (by omega) (by omega)
         have l2:=fun base=>run_lifts (base:=base) (h:=K4) (x:=mk) (k:=k) (by omega) (by omega)
         cases e1:sw.testBit k with
         | false =>
          rw [e1] at l1
          have hsp:=@Nat.succ_ne_zero;repeat' (first|simp (disch:=first|exact dq|fail) only [go_sem,↓reduceIte,hsp,r8,y1,y3,y6,y7,z1,z3,d1,d3,q1,q3,g03,g3,hlt4,l1]|refine WP_drw ?_|refine cnd_intro (fun hsp=>?_) fun hsp=>?_)
          refine ⟨agq,by omega,fun m hmk2 q=>?_⟩
          by_cases em:m=k
          ·rw [em,e1] at q;cases q
          ·exact hm m (by omega) q
         | true =>
          rw [e1] at l1
          cases e2:mk.testBit k with
          | true =>
           rw [e2] at l2
           have hsp:=@Nat.succ_ne_zero;repeat' (first|simp (disch:=first|exact dq|fail) only [go_sem,↓reduceIte,hsp,r8,y1,y3,y6,y7,z1,z3,d1,d3,q1,q3,g03,g3,hlt4,l1,l2]|refine WP_drw ?_|refine cnd_intro (fun hsp=>?_) fun hsp=>?_)
           refine ⟨agq,by omega,fun m hmk2 q=>?_⟩
           by_cases em:m=k
           ·rw [em];exact e2
           ·exact hm m (by omega) q
          | false =>
           rw [e2] at l2
           have hsp:=@Nat.succ_ne_zero;repeat' (first|simp (disch:=first|exact dq|fail) only [go_sem,↓reduceIte,hsp,r8,y1,y3,y6,y7,z1,z3,d1,d3,q1,q3,g03,g3,hlt4,l1,l2]|refine WP_drw ?_|refine cnd_intro (fun hsp=>?_) fun hsp=>?_)
           refine fI ?_ xf
           have hsub:subB r.2.2 r.2.1=false:=by
            unfold subB
            rw [emk,esw,Int.toNat_natCast,Int.toNat_natCast]
            refine decide_eq_false fun q=>?_
            have:=(sub_iff hsT).2 q k hk e1
            rw [e2] at this;cases this
           unfold chkL
           rw [if_neg u0,if_neg u2,if_neg u3,if_pos (by rw [all_no hx (by rw [w1,hsub];rfl)];simp)]
        ·rintro fr4 K4 hA4 ⟨r8,rfl,hm⟩
         have y1:=hA4 1 rfl
         have y3:=hA4 3 rfl
         have y6:=hA4 6 rfl
         have y7:=hA4 7 rfl
         try simp (disch:=first|exact dq|fail) only [go_sem,↓reduceIte,z1,z3] at y1 y3 y6 y7
         have hlt4:((T:Int)<L.T)=False:=eq_false (by omega)
         have hsp:=@Nat.succ_ne_zero;repeat' (first|simp (disch:=first|exact dq|fail) only [go_sem,↓reduceIte,hsp,r8,y1,y3,y6,y7,z1,z3,d1,d3,q1,q3,g03,g3,hlt4,r6]|refine WP_drw ?_|refine cnd_intro (fun hsp=>?_) fun hsp=>?_)
         have hsub:subB r.2.2 r.2.1=true:=by
          unfold subB
          rw [emk,esw,Int.toNat_natCast,Int.toNat_natCast]
          exact decide_eq_true ((sub_iff hsT).1 hm)
         exact ⟨agq,by omega,xK.trans x3,all_take hx ha3 (by rw [w1,hsub];rfl)⟩
      ·rintro fr3 K2 hA3 ⟨r6,xK,ha3⟩
       have z1:=hA3 1 rfl
       have z3:=hA3 3 rfl
       try simp (disch:=first|exact dq|fail) only [go_sem,↓reduceIte,d1,d3] at z1 z3
       have hlt3:((L.R.length:Int)<(L.R.length:Int))=False:=eq_false (by omega)
       rw [List.take_length] at ha3
       have u4:¬ (¬ (L.R.all fun r=>setB L.T r.2.2 && subB r.2.2 r.2.1)=true):=by rw [ha3];simp
       have iR2:=iR.ext xK
       have hn2':=iR2.len (P:=prog) Fc.el83
       have g2:=xK.get g0
       have iC2:=iC.ext xK
       have hn1':=lenI iC2
       have hsp:=@Nat.succ_ne_zero;repeat' (first|simp (disch:=first|exact dq|fail) only [go_sem,↓reduceIte,hsp,r6,z1,z3,d1,d3,q1,q3,g2,hn2',hlt3]|refine WP_drw ?_|refine cnd_intro (fun hsp=>?_) fun hsp=>?_)
       refine WP_count [(2,121)] 0 L.C.length (Nat.zero_le _) (fun _ i fr K=>fr 9=.int .i64 (i:Int)∧K=K2∧(L.C.take i).Nodup) ?_ ?_ ?_
       ·exact ⟨by (simp (disch:=first|exact dq|fail) only [go_sem,↓reduceIte,Int.natCast_zero];first|done|rfl),rfl,by simp⟩
       ·rintro i fr4 K4 hi0 hi hA4 ⟨r9,rfl,hn⟩
        have y1:=hA4 1 rfl
        try simp (disch:=first|exact dq|fail) only [go_sem,↓reduceIte,z1] at y1
        have hlt4:((i:Int)<(L.C.length:Int))=True:=eq_true (by omega)
        have ai:=adrI (i:=(i:Int)) (by omega) iC2 (by omega)
        rw [Int.toNat_natCast] at ai
        have li:=loadI iC2 hi
        have hsp:=@Nat.succ_ne_zero;repeat' (first|simp (disch:=first|exact dq|fail) only [go_sem,↓reduceIte,hsp,r9,y1,z1,z3,d1,d3,q1,q3,g2,hn1',hlt4]|refine WP_drw ?_|refine cnd_intro (fun hsp=>?_) fun hsp=>?_)
        refine WP_count [(2,2),(10,121)] 0 i (Nat.zero_le _) (fun _ j fr K=>fr 10=.int .i64 (j:Int)∧K=K4∧∀ m,m<j→L.C.getD i 0 ≠ L.C.getD m 0) ?_ ?_ ?_
        ·exact ⟨by (simp (disch:=first|exact dq|fail) only [go_sem,↓reduceIte,Int.natCast_zero];first|done|rfl),rfl,fun m hm=>by omega⟩
        ·rintro j fr5 K5 hj0 hj hA5 ⟨r10,rfl,hd⟩
         have x1:=hA5 1 rfl
         have x9:=hA5 9 rfl
         try simp (disch:=first|exact dq|fail) only [go_sem,↓reduceIte,y1] at x1 x9
         have hlt5:((j:Int)<(i:Int))=True:=eq_true (by omega)
         have aj:=adrI (i:=(j:Int)) (by omega) iC2 (by omega)
         rw [Int.toNat_natCast] at aj
         have lj:=loadI iC2 (i:=j) (by omega)
         by_cases c:L.C.getD i 0=L.C.getD j 0
         ·have t1:(L.C.getD i 0=L.C.getD j 0)=True:=eq_true c
          have hsp:=@Nat.succ_ne_zero;repeat' (first|simp (disch:=first|exact dq|fail) only [go_sem,↓reduceIte,hsp,r10,r9,x1,x9,y1,z1,z3,d1,d3,q1,q3,hlt5,g2,ai,li,aj,lj,t1]|refine WP_drw ?_|refine cnd_intro (fun hsp=>?_) fun hsp=>?_)
          refine fI ?_ (xG.trans xK)
          have htw:twB L.C=true:=by
           unfold twB
           refine decide_eq_true ?_
           intro hN
           rw [getD_at hi,getD_at (show j<L.C.length by omega)] at c
           have:=nodup_inj hN _ _ c
           omega
          unfold chkL
          rw [if_neg u0,if_neg u2,if_neg u3,if_neg u4,if_pos htw]
         ·have t1:(L.C.getD i 0=L.C.getD j 0)=False:=eq_false c
          have hsp:=@Nat.succ_ne_zero;repeat' (first|simp (disch:=first|exact dq|fail) only [go_sem,↓reduceIte,hsp,r10,r9,x1,x9,y1,z1,z3,d1,d3,q1,q3,hlt5,g2,ai,li,aj,lj,t1]|refine WP_drw ?_|refine cnd_intro (fun hsp=>?_) fun hsp=>?_)
          refine ⟨agq,by omega,fun m hm=>?_⟩
          by_cases e:m=j
          ·rw [e];exact c
          ·exact hd m (by omega)
        ·rintro fr5 K5 hA5 ⟨r10,rfl,hd⟩
         have x1:=hA5 1 rfl
         have x9:=hA5 9 rfl
         try simp (disch:=first|exact dq|fail) only [go_sem,↓reduceIte,y1] at x1 x9
         have hlt5:((i:Int)<(i:Int))=False:=eq_false (by omega)
         have hsp:=@Nat.succ_ne_zero;repeat' (first|simp (disch:=first|exact dq|fail) only [go_sem,↓reduceIte,hsp,r10,r9,x1,x9,y1,z1,z3,d1,d3,q1,q3,hlt5]|refine WP_drw ?_|refine cnd_intro (fun hsp=>?_) fun hsp=>?_)
         refine ⟨agq,by omega,?_⟩
         rw [take_succ' hi,nodup_snoc]
         refine ⟨hn,fun hm=>?_⟩
         obtain ⟨m,hm1,hm2⟩:=List.mem_iff_getElem.1 hm
         rw [List.length_take] at hm1
         rw [List.getElem_take] at hm2
         exact hd m (by omega) (by rw [← hm2,getD_at (show m<L.C.length by omega)])
       ·rintro fr4 K4 hA4 ⟨r9,rfl,hn⟩
        have y1:=hA4 1 rfl
        try simp (disch:=first|exact dq|fail) only [go_sem,↓reduceIte,z1] at y1
        have hlt4:((L.C.length:Int)<(L.C.length:Int))=False:=eq_false (by omega)
        rw [List.take_length] at hn
        have hsp:=@Nat.succ_ne_zero;repeat' (first|simp (disch:=first|exact dq|fail) only [go_sem,↓reduceIte,hsp,r9,y1,z1,z3,d1,d3,q1,q3,g2,hn1',hlt4]|refine WP_drw ?_|refine cnd_intro (fun hsp=>?_) fun hsp=>?_)
        refine fI ?_ (xG.trans xK)
        have htw:twB L.C=false:=by unfold twB;exact decide_eq_false (fun q=>q hn)
        unfold chkL
        rw [if_neg u0,if_neg u2,if_neg u3,if_neg u4,if_neg (by rw [htw];simp)]
  ·rw [decide_eq_false c1] at of1
   have hsp:=@Nat.succ_ne_zero;repeat' (first|simp (disch:=first|exact dq|fail) only [go_sem,↓reduceIte,hsp,← eG,g0,of0,Bool.not_true,hn1,of1,Bool.not_false]|refine WP_drw ?_|refine cnd_intro (fun hsp=>?_) fun hsp=>?_)
   refine fI ?_ xG
   unfold chkL
   rw [if_neg (by simpa using c0),if_pos (.inl c1)]
 ·rw [decide_eq_false c0] at of0
  have hsp:=@Nat.succ_ne_zero;repeat' (first|simp (disch:=first|exact dq|fail) only [go_sem,↓reduceIte,hsp,← eG,g0,of0,Bool.not_false]|refine WP_drw ?_|refine cnd_intro (fun hsp=>?_) fun hsp=>?_)
  refine fI ?_ xG
  unfold chkL
  rw [if_pos c0]
end Go.AM
namespace Go.AM
open Go.Proofs.Tryz
attribute [-go_sem] put_ne put_same
attribute [local go_sem ↓] put_if
theorem range_no {p:Nat→Bool} {k n:Nat} (hk:k<n) (h:p k=false):(List.range n).all p=false:=by
 rw [Bool.eq_false_iff]
 intro q
 have:=List.all_eq_true.1 q k (List.mem_range.2 hk)
 rw [h] at this;cases this
theorem beq_dec {a b:Bool}:(a == b)=decide (a=b):=by cases a<;>cases b<;>rfl
set_option maxHeartbeats 2000000 in
theorem run_agrees {base k:Nat} {h:Heap} {v:AVal} {L:Lac} {r:Rw3} (hL:LacAt h v L) (hT:1≤L.T∧L.T≤8) (hk:k<L.C.length) (hc:0≤L.C.getD k 0∧L.C.getD k 0<1000) (hm:0≤r.2.1∧r.2.1<1000) (hs:0≤r.2.2∧r.2.2<1000) :
  callL prog raw base (.fn 98 [] []) [v,.agg [.int .i64 r.1,.int .i64 r.2.1,.int .i64 r.2.2],.int .i64 (k:Int)] h=some (.bool (agrB L r k),h):=by
 obtain ⟨cv,rv,rfl,hC,hR⟩:=hL
 have o1:=hC.one
 have o2:=hR.one
 obtain ⟨G,eG⟩:∃ G,G=h++[rcB L.T cv rv]++[rrB r]:=⟨_,rfl⟩
 have xG:Ext h G:=by rw [eG];exact .app (.app .refl)
 have g0:G[h.length]?=some (rcB L.T cv rv):=by rw [eG];exact get_app (get_eq rfl)
 have g1:G[h.length+1]?=some (rrB r):=by rw [eG];exact get_eq (by simp)
 have iC:=hC.ext xG
 have ak:=adrI (i:=(k:Int)) (by omega) iC (by omega)
 rw [Int.toNat_natCast] at ak
 have lk:=loadI iC hk
 obtain ⟨c,ec⟩:=Int.eq_ofNat_of_zero_le hc.1
 obtain ⟨mk,em⟩:=Int.eq_ofNat_of_zero_le hm.1
 obtain ⟨sw,es⟩:=Int.eq_ofNat_of_zero_le hs.1
 rw [ec] at lk hc
 rw [em] at hm
 rw [es] at hs
 obtain ⟨T,eT⟩:=Int.eq_ofNat_of_zero_le (show 0≤L.T by omega)
 have hag:agrB L r k=(List.range T).all fun t=>!mk.testBit t || (c.testBit t == sw.testBit t):=by
  unfold agrB
  rw [eT,em,es,ec]
  simp only [Int.toNat_natCast]
 rw [hag]
 unfold rcB rrB at eG
 unfold rcB at g0
 unfold rrB at g1
 rw [em,es] at g1 eG
 rw [em,es]
 refine callL_run func98 rfl rfl ?_
 have hsp:=@Nat.succ_ne_zero;repeat' (first|simp (disch:=first|exact dq|fail) only [go_sem,↓reduceIte,hsp,← eG]|refine WP_drw ?_|refine cnd_intro (fun hsp=>?_) fun hsp=>?_)
 refine WP_count [(6,31)] 0 T (Nat.zero_le _) (fun _ i fr H=>fr 7=.int .i64 (i:Int)∧H=G∧(List.range i).all (fun t=>!mk.testBit t || (c.testBit t == sw.testBit t))=true) ?_ ?_ ?_
 ·exact ⟨by (simp (disch:=first|exact dq|fail) only [go_sem,↓reduceIte,Int.natCast_zero];first|done|rfl),rfl,by simp⟩
 ·rintro i fr H hi0 hi hA ⟨r7,rfl,ha⟩
  have q2:=hA 2 rfl
  have q3:=hA 3 rfl
  have q4:=hA 4 rfl
  try simp (disch:=first|exact dq|fail) only [go_sem,↓reduceIte] at q2 q3 q4
  have hlt:((i:Int)<L.T)=True:=eq_true (by omega)
  have l1:=fun base=>run_lifts (base:=base) (h:=H) (x:=mk) (k:=i) (by omega) (by omega)
  have l2:=fun base=>run_lifts (base:=base) (h:=H) (x:=c) (k:=i) (by omega) (by omega)
  have l3:=fun base=>run_lifts (base:=base) (h:=H) (x:=sw) (k:=i) (by omega) (by omega)
  cases b1:mk.testBit i with
  | false =>
   rw [b1] at l1
   have hsp:=@Nat.succ_ne_zero;repeat' (first|simp (disch:=first|exact dq|fail) only [go_sem,↓reduceIte,hsp,r7,q2,q3,q4,g0,g1,hlt,l1]|refine WP_drw ?_|refine cnd_intro (fun hsp=>?_) fun hsp=>?_)
   exact ⟨agq,by omega,by rw [List.all_append,ha];simp [b1]⟩
  | true =>
   rw [b1] at l1
   by_cases b2:c.testBit i=sw.testBit i
   ·rw [b2] at l2
    have hsp:=@Nat.succ_ne_zero;repeat' (first|simp (disch:=first|exact dq|fail) only [go_sem,↓reduceIte,hsp,r7,q2,q3,q4,g0,g1,hlt,l1,ak,lk,l2,l3,neB,ne_eq,eq_self,not_true,decide_false]|refine WP_drw ?_|refine cnd_intro (fun hsp=>?_) fun hsp=>?_)
    exact ⟨agq,by omega,by rw [List.all_append,ha];simp [b1,b2]⟩
   ·have t1:(c.testBit i=sw.testBit i)=False:=eq_false b2
    have hsp:=@Nat.succ_ne_zero;repeat' (first|simp (disch:=first|exact dq|fail) only [go_sem,↓reduceIte,hsp,r7,q2,q3,q4,g0,g1,hlt,l1,ak,lk,l2,l3,neB,ne_eq,t1,not_false_eq_true,decide_true]|refine WP_drw ?_|refine cnd_intro (fun hsp=>?_) fun hsp=>?_)
    refine fB ?_ xG
    rw [range_no (k:=i) hi (by rw [b1,beq_dec,decide_eq_false b2];rfl)]
 ·rintro fr H hA ⟨r7,rfl,ha⟩
  have q2:=hA 2 rfl
  have q3:=hA 3 rfl
  have q4:=hA 4 rfl
  try simp (disch:=first|exact dq|fail) only [go_sem,↓reduceIte] at q2 q3 q4
  have hlt:((T:Int)<L.T)=False:=eq_false (by omega)
  have hsp:=@Nat.succ_ne_zero;repeat' (first|simp (disch:=first|exact dq|fail) only [go_sem,↓reduceIte,hsp,r7,q2,q3,q4,g0,hlt]|refine WP_drw ?_|refine cnd_intro (fun hsp=>?_) fun hsp=>?_)
  exact fB (by rw [ha]) xG
theorem row_bd {L:Lac} (hL:LacOk L) {r:Rw3} (hr:r ∈ L.R):(0≤r.1∧r.1≤999)∧(0≤r.2.1∧r.2.1<1000)∧0≤r.2.2∧r.2.2<1000:=by
 obtain ⟨a,b,c,_⟩:=hL.r r hr
 have:=(pow_le8 hL.T).2
 exact ⟨a,⟨b.1,by omega⟩,c.1,by omega⟩
theorem card_bd {L:Lac} (hL:LacOk L) {k:Nat} (hk:k<L.C.length):0≤L.C.getD k 0∧L.C.getD k 0<1000:=by
 have h:=hL.c _ (getD_mem' (d:=(0:Int)) hk)
 have:=(pow_le8 hL.T).2
 omega
set_option maxHeartbeats 2000000 in
theorem run_rfits {base p k:Nat} {h:Heap} {v:AVal} {L:Lac} (hL:LacAt h v L) (hok:LacOk L) (hk:k<L.C.length) :
  callL prog raw base (.fn 52 [] []) [v,.int .i64 (p:Int),.int .i64 (k:Int)] h=some (.bool (fitB L p k),h):=by
 have hL0:=hL
 obtain ⟨cv,rv,rfl,hC,hR⟩:=hL
 have o1:=hC.one
 have o2:=hR.one
 have hn:=hok.n
 have hm:=hok.m
 obtain ⟨G,eG⟩:∃ G,G=h++[rcB L.T cv rv]:=⟨_,rfl⟩
 have xG:Ext h G:=by rw [eG];exact .app .refl
 have g0:G[h.length]?=some (rcB L.T cv rv):=by rw [eG];exact get_eq rfl
 have iC:=hC.ext xG
 have iR:=hR.ext xG
 have hn1:=lenI iC
 have hn2:=iR.len (P:=prog) Fc.el83
 rw [← fitR_eq hok hk]
 unfold rcB at eG g0
 refine callL_run func52 rfl rfl ?_
 have hsp:=@Nat.succ_ne_zero;repeat' (first|simp (disch:=first|exact dq|fail) only [go_sem,↓reduceIte,hsp,← eG]|refine WP_drw ?_|refine cnd_intro (fun hsp=>?_) fun hsp=>?_)
 refine WP_count [(6,37)] 0 L.R.length (Nat.zero_le _) (fun _ i fr H=>fr 7=.int .i64 (i:Int)∧H=G∧(L.R.take i).all (fun r=>!decide (r.1.toNat % L.C.length=p) || agrB L r k)=true) ?_ ?_ ?_
 ·exact ⟨by (simp (disch:=first|exact dq|fail) only [go_sem,↓reduceIte,Int.natCast_zero];first|done|rfl),rfl,by simp⟩
 ·rintro i fr H hi0 hi hA ⟨r7,rfl,ha⟩
  have q1:=hA 1 rfl
  have q2:=hA 2 rfl
  have q3:=hA 3 rfl
  try simp (disch:=first|exact dq|fail) only [go_sem,↓reduceIte] at q1 q2 q3
  have hlt:((i:Int)<(L.R.length:Int))=True:=eq_true (by omega)
  obtain ⟨r,er⟩:∃ r,r=L.R[i]:=⟨_,rfl⟩
  have hx:L.R[i]?=some r:=by rw [er];exact List.getElem?_eq_getElem hi
  obtain ⟨k1,k2,k3⟩:=row_bd hok (List.mem_of_getElem? hx)
  have a1:=rrow_ad iR hi
  have a2:=rrow_f0 iR hi
  have b1:=rrow_c0 iR hx
  have b2:=rrow_ld iR hx
  have hrem:=remN (x:=r.1) (n:=L.C.length) k1.1 (by omega)
  have hag:=fun base=>run_agrees (base:=base) (r:=r) (hL0.ext xG) hok.T hk (card_bd hok hk) k2 k3
  obtain ⟨j,ej⟩:∃ j,j=r.1.toNat % L.C.length:=⟨_,rfl⟩
  rw [← ej] at hrem
  by_cases c:j=p
  ·have t1:((j:Int)=(p:Int))=True:=eq_true (by omega)
   cases d:agrB L r k with
   | true =>
    rw [d] at hag
    have hsp:=@Nat.succ_ne_zero;repeat' (first|simp (disch:=first|exact dq|fail) only [go_sem,↓reduceIte,hsp,r7,q1,q2,q3,g0,hn2,hlt,a1,a2,b1,hn1,hrem,t1,b2,hag]|refine WP_drw ?_|refine cnd_intro (fun hsp=>?_) fun hsp=>?_)
    exact ⟨agq,by omega,all_take hx ha (by rw [d];simp)⟩
   | false =>
    rw [d] at hag
    have hsp:=@Nat.succ_ne_zero;repeat' (first|simp (disch:=first|exact dq|fail) only [go_sem,↓reduceIte,hsp,r7,q1,q2,q3,g0,hn2,hlt,a1,a2,b1,hn1,hrem,t1,b2,hag]|refine WP_drw ?_|refine cnd_intro (fun hsp=>?_) fun hsp=>?_)
    refine fB ?_ xG
    unfold fitR
    rw [all_no hx (by rw [d,← ej,decide_eq_true c];rfl)]
  ·have t1:((j:Int)=(p:Int))=False:=eq_false (by omega)
   have hsp:=@Nat.succ_ne_zero;repeat' (first|simp (disch:=first|exact dq|fail) only [go_sem,↓reduceIte,hsp,r7,q1,q2,q3,g0,hn2,hlt,a1,a2,b1,hn1,hrem,t1]|refine WP_drw ?_|refine cnd_intro (fun hsp=>?_) fun hsp=>?_)
   exact ⟨agq,by omega,all_take hx ha (by rw [← ej,decide_eq_false c];rfl)⟩
 ·rintro fr H hA ⟨r7,rfl,ha⟩
  have q1:=hA 1 rfl
  have q2:=hA 2 rfl
  have q3:=hA 3 rfl
  try simp (disch:=first|exact dq|fail) only [go_sem,↓reduceIte] at q1 q2 q3
  have hlt:((L.R.length:Int)<(L.R.length:Int))=False:=eq_false (by omega)
  rw [List.take_length] at ha
  have hsp:=@Nat.succ_ne_zero;repeat' (first|simp (disch:=first|exact dq|fail) only [go_sem,↓reduceIte,hsp,r7,q1,q2,q3,g0,hn2,hlt]|refine WP_drw ?_|refine cnd_intro (fun hsp=>?_) fun hsp=>?_)
  exact fB (by unfold fitR;rw [ha]) xG
set_option maxHeartbeats 2000000 in
theorem run_rexplains {base:Nat} {h:Heap} {v ov:AVal} {L:Lac} {o:List Int} (hL:LacAt h v L) (hok:LacOk L) (hO:Ints h ov o) (ho:Ord L.C.length o) :
  callL prog raw base (.fn 58 [] []) [v,ov] h=some (.bool (xplD L o o.length),h):=by
 have hL0:=hL
 obtain ⟨cv,rv,rfl,hC,hR⟩:=hL
 have o1:=hC.one
 have o2:=hR.one
 have o3:=hO.one
 have hn:=hok.n
 have hm:=hok.m
 have hol:=ho.1
 obtain ⟨G,eG⟩:∃ G,G=h++[rcB L.T cv rv]:=⟨_,rfl⟩
 have xG:Ext h G:=by rw [eG];exact .app .refl
 have g0:G[h.length]?=some (rcB L.T cv rv):=by rw [eG];exact get_eq rfl
 have hxe:xplD L o o.length=xplB L o:=by rw [Bool.eq_iff_iff,xplD_iff,xplB_iff hok ho]
 rw [hxe]
 unfold rcB at eG g0
 refine callL_run func58 rfl rfl ?_
 have hsp:=@Nat.succ_ne_zero;repeat' (first|simp (disch:=first|exact dq|fail) only [go_sem,↓reduceIte,hsp,← eG]|refine WP_drw ?_|refine cnd_intro (fun hsp=>?_) fun hsp=>?_)
 refine WP_count [(4,30)] 0 L.R.length (Nat.zero_le _) (fun _ i fr H=>fr 5=.int .i64 (i:Int)∧Ext G H∧(L.R.take i).all (fun r=>agrB L r (o.getD (r.1.toNat % o.length) 0).toNat)=true) ?_ ?_ ?_
 ·exact ⟨by (simp (disch:=first|exact dq|fail) only [go_sem,↓reduceIte,Int.natCast_zero];first|done|rfl),.refl,by simp⟩
 ·rintro i fr H hi0 hi hA ⟨r5,xH,ha⟩
  have q1:=hA 1 rfl
  have q2:=hA 2 rfl
  try simp (disch:=first|exact dq|fail) only [go_sem,↓reduceIte] at q1 q2
  have hlt:((i:Int)<(L.R.length:Int))=True:=eq_true (by omega)
  obtain ⟨r,er⟩:∃ r,r=L.R[i]:=⟨_,rfl⟩
  have hx:L.R[i]?=some r:=by rw [er];exact List.getElem?_eq_getElem hi
  obtain ⟨k1,k2,k3⟩:=row_bd hok (List.mem_of_getElem? hx)
  have xh:=xG.trans xH
  have lH:=xh.len
  have iR:=hR.ext xh
  have a1:=rrow_ad iR hi
  have b2:=rrow_ld iR hx
  have gH:=xH.get g0
  have hn2:=iR.len (P:=prog) Fc.el83
  obtain ⟨K,eK⟩:∃ K,K=H++[rrB r]:=⟨_,rfl⟩
  have xK:Ext H K:=by rw [eK];exact .app .refl
  have gr:K[H.length]?=some (rrB r):=by rw [eK];exact get_eq rfl
  have gK:=xK.get gH
  have iO:=hO.ext (xh.trans xK)
  have hlo:=lenI iO
  rw [hol] at hlo
  have hrem:=remN (x:=r.1) (n:=L.C.length) k1.1 (by omega)
  obtain ⟨j,ej⟩:∃ j,j=r.1.toNat % L.C.length:=⟨_,rfl⟩
  have hj:j<L.C.length:=by rw [ej];exact Nat.mod_lt _ (by omega)
  rw [← ej] at hrem
  have aj:=adrI (i:=(j:Int)) (by omega) iO (by omega)
  rw [Int.toNat_natCast] at aj
  have lj:=loadI iO (i:=j) (by omega)
  have hb:=ord_at ho hj
  obtain ⟨c,ec⟩:=Int.eq_ofNat_of_zero_le hb.2.1
  rw [ec] at lj hb
  have hcn:c<L.C.length:=by omega
  have hag:=fun base=>run_agrees (base:=base) (r:=r) (k:=c) (hL0.ext (xh.trans xK)) hok.T hcn (card_bd hok hcn) k2 k3
  have hval:agrB L r (o.getD (r.1.toNat % o.length) 0).toNat=agrB L r c:=by rw [hol,← ej,ec,Int.toNat_natCast]
  unfold rrB at eK gr
  cases d:agrB L r c with
  | true =>
   rw [d] at hag
   have hsp:=@Nat.succ_ne_zero;repeat' (first|simp (disch:=first|exact dq|fail) only [go_sem,↓reduceIte,hsp,r5,q1,q2,gH,hn2,hlt,a1,b2,← eK,gK,gr,hlo,hrem,aj,lj,hag]|refine WP_drw ?_|refine cnd_intro (fun hsp=>?_) fun hsp=>?_)
   exact ⟨agq,by omega,xH.trans xK,all_take hx ha (by rw [hval,d])⟩
  | false =>
   rw [d] at hag
   have hsp:=@Nat.succ_ne_zero;repeat' (first|simp (disch:=first|exact dq|fail) only [go_sem,↓reduceIte,hsp,r5,q1,q2,gH,hn2,hlt,a1,b2,← eK,gK,gr,hlo,hrem,aj,lj,hag]|refine WP_drw ?_|refine cnd_intro (fun hsp=>?_) fun hsp=>?_)
   refine fB ?_ (xh.trans xK)
   unfold xplB
   rw [all_no hx (by rw [hval,d])]
 ·rintro fr H hA ⟨r5,xH,ha⟩
  have q1:=hA 1 rfl
  have q2:=hA 2 rfl
  try simp (disch:=first|exact dq|fail) only [go_sem,↓reduceIte] at q1 q2
  have hlt:((L.R.length:Int)<(L.R.length:Int))=False:=eq_false (by omega)
  rw [List.take_length] at ha
  have gH:=xH.get g0
  have hn2:=(hR.ext (xG.trans xH)).len (P:=prog) Fc.el83
  have hsp:=@Nat.succ_ne_zero;repeat' (first|simp (disch:=first|exact dq|fail) only [go_sem,↓reduceIte,hsp,r5,q1,q2,gH,hn2,hlt]|refine WP_drw ?_|refine cnd_intro (fun hsp=>?_) fun hsp=>?_)
  exact fB (by unfold xplB;rw [ha]) (xG.trans xH)
end Go.AM
