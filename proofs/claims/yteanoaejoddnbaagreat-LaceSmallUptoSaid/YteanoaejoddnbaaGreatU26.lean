/-
  The reference: orders alone, what rises, one move (Alone, Rise, Make).
-/
import Derived.Test.YteanoaejoddnbaaGreatU25
set_option linter.unusedSimpArgs false
set_option linter.unusedVariables false
namespace Go.AM
open Go.Proofs.Tryz
attribute [-go_sem] put_ne put_same
attribute [local go_sem ↓] put_if
theorem run_ralone {base:Nat} {h:Heap} {v:AVal} {l:List Int} (hI:Ints h v l):callL prog raw base (.fn 33 [] []) [v] h=some (.int .i64 (aloL l),h):=by
 have hlb:=hI.1.1
 have ov:=hI.one
 have hl:=lenI hI
 have hf:=fun base=>run_off (base:=base) (h:=h) (n:=(l.length:Int)) (lo:=1) (hi:=7)
 refine callL_run func33 rfl rfl ?_
 by_cases c:1≤(l.length:Int)∧(l.length:Int)≤7
 ·have hr:=fun base=>run_rordered (base:=base) (h:=h) (n:=l.length) hI (by omega)
  rw [decide_eq_true c] at hf
  have hsp:=@Nat.succ_ne_zero;repeat' (first|simp (disch:=first|exact dq|fail) only [go_sem,↓reduceIte,hsp,hl,hf,Bool.not_true,hr]|refine WP_drw ?_|refine cnd_intro (fun hsp=>?_) fun hsp=>?_)
  exact fI (by unfold aloL;rw [if_neg (fun q=>q c)])
 ·rw [decide_eq_false c] at hf
  have hsp:=@Nat.succ_ne_zero;repeat' (first|simp (disch:=first|exact dq|fail) only [go_sem,↓reduceIte,hsp,hl,hf,Bool.not_false]|refine WP_drw ?_|refine cnd_intro (fun hsp=>?_) fun hsp=>?_)
  exact fI (by unfold aloL;rw [if_pos c])
def adjB (o x:List Int) (j:Nat):Bool:=(List.range j).all fun i=>decide (i=0 ∨ o.getD (x.getD (i-1) 0).toNat 0<o.getD (x.getD i 0).toNat 0)
theorem adjB_succ {o x:List Int} {j:Nat}:adjB o x (j+1)=(adjB o x j && decide (j=0 ∨ o.getD (x.getD (j-1) 0).toNat 0<o.getD (x.getD j 0).toNat 0)):=by
 unfold adjB
 rw [List.range_succ,List.all_append]
 simp
theorem risB_adj {o x:List Int}:adjB o x (max 1 x.length)=risB o x:=by
 have h0:adjB o x (max 1 x.length)=adjB o x x.length:=by
  by_cases e:x.length=0
  ·rw [e];rfl
  ·rw [Nat.max_eq_right (by omega)]
 rw [h0,Bool.eq_iff_iff]
 unfold adjB risB
 rw [List.all_eq_true,decide_eq_true_eq,List.pairwise_iff_getElem]
 constructor
 ·intro h i j hi hj hij
  induction j with
  | zero=>omega
  | succ j ih =>
   have hs:=of_decide_eq_true (h (j+1) (List.mem_range.2 hj))
   rcases hs with hs|hs
   ·omega
   ·rw [Nat.add_sub_cancel,getD_at (show j<x.length by omega),getD_at hj] at hs
    rcases Nat.lt_or_ge i j with q|q
    ·exact Int.lt_trans (ih (by omega) q) hs
    ·have:i=j:=by omega
     subst this;exact hs
 ·intro h i hi
  have hi:=List.mem_range.1 hi
  refine decide_eq_true ?_
  by_cases e:i=0
  ·exact .inl e
  ·refine .inr ?_
   rw [getD_at (show i-1<x.length by omega),getD_at hi]
   exact h (i-1) i (by omega) hi (by omega)
set_option maxHeartbeats 8000000 in
theorem run_rRise {base:Nat} {h:Heap} {v:AVal} {o:List Int} (hb:base≤h.length) (hI:Ints h v o) (hn:o.length≤7) :
  Ret prog raw base (.fn 34 [] []) [v] h (fun w H=>Ext h H∧Own encI 3 h.length H w (riseL o)):=by
 have ov:=hI.one
 have hst:=fun base h=>run_sets (base:=base) (h:=h) (T:=o.length) (by omega)
 rw [← rseR_eq]
 obtain ⟨m,em⟩:∃ m,m=2 ^ o.length:=⟨_,rfl⟩
 have hm:m≤2 ^ 7:=by rw [em];exact Nat.pow_le_pow_right (by decide) hn
 rw [← em] at hst ⊢
 have hsb:∀ s,∀ x ∈ memS o.length s,0≤x∧x<(o.length:Int):=fun s x hx=>upto_mem.1 (memS_sub.subset hx)
 have hsl:∀ s,(memS o.length s).length≤o.length:=fun s=>sub_len memS_sub
 have hsm:∀ s,Small (memS o.length s):=fun s=>⟨by have:=hsl s;omega,fun x hx=>by have:=hsb s x hx;omega⟩
 have hlo:=fun {K} (e:Ext h K)=>lenI (hI.ext e)
 refine ret_raw func34 rfl (by kernel_rfl) ?_
 have hsp:=@Nat.succ_ne_zero;repeat' (first|simp (disch:=first|exact dq|fail) only [go_sem,↓reduceIte,hsp]|refine WP_drw ?_|refine cnd_intro (fun hsp=>?_) fun hsp=>?_)
 refine WP_count [(3,64)] 0 m (Nat.zero_le _) (fun _ i fr K=>fr 4=.int .i64 (i:Int)∧Ext h K∧Small (rseR o i)∧∃ w,fr 3=w∧Own encI 3 h.length K w (rseR o i)) ?_ ?_ ?_
 ·exact ⟨by (simp (disch:=first|exact dq|fail) only [go_sem,↓reduceIte,Int.natCast_zero];first|done|rfl),.refl,⟨by simp [rseR],by simp [rseR]⟩,.slice none 0 0,by simp (disch:=first|exact dq|fail) only [go_sem,↓reduceIte],Own.nil⟩
 ·rintro i fr K hi0 hi hA1 ⟨r4,xK,hS,u,r3,hO⟩
  have q0:=hA1 0 rfl
  have q2:=hA1 2 rfl
  try simp (disch:=first|exact dq|fail) only [go_sem,↓reduceIte] at q0 q2
  have hlt:((i:Int)<(m:Int))=True:=eq_true (by omega)
  have hstK:=fun base=>hst base K
  have lK:=xK.len
  have ou:=hO.one
  have hloK:=hlo xK
  obtain ⟨w,Z,e1,z1,oW⟩:=run_chosen (base:=base) (h:=K) (n:=o.length) (s:=i) (by omega) (by omega) (by omega)
  have ow:=oW.one
  have lZ:=z1.len
  obtain ⟨x,ex⟩:∃ x,x=memS o.length i:=⟨_,rfl⟩
  have hxm:=hsm i
  have hxb:=hsb i
  have hxl:=hsl i
  rw [← ex] at oW hxm hxb hxl
  have iW:=own_ints oW hxm
  have iV:=own_ints (hO.ext z1) hS
  have lW:=lenI iW
  have lV:=lenI iV
  have bfo:=fun base=>run_before (base:=base) iW iV
  have xZ:=xK.trans z1
  have iO:=hI.ext xZ
  have hd:rseR o (i+1)=if (risB o x && btG x (rseR o i))=true then x else rseR o i:=by rw [rseR,← ex]
  obtain ⟨b,eb⟩:∃ b,b=rseR o i:=⟨_,rfl⟩
  rw [← eb] at hd hO hS lV bfo
  obtain ⟨k,ek⟩:∃ k,k=max 1 x.length:=⟨_,rfl⟩
  have hra:=risB_adj (o:=o) (x:=x)
  rw [← ek] at hra
  have hsp:=@Nat.succ_ne_zero;repeat' (first|simp (disch:=first|exact dq|fail) only [go_sem,↓reduceIte,hsp,r4,r3,q0,q2,hloK,hstK,hlt,e1]|refine WP_drw ?_|refine cnd_intro (fun hsp=>?_) fun hsp=>?_)
  refine WP_count [(6,43)] 1 k (by omega) (fun _ j fr X=>fr 7=.int .i64 (j:Int)∧X=Z∧fr 6=.bool (adjB o x j)) ?_ ?_ ?_
  ·exact ⟨by (simp (disch:=first|exact dq|fail) only [go_sem,↓reduceIte,Int.natCast_zero];first|done|rfl),rfl,by simp (disch:=first|exact dq|fail) only [go_sem,↓reduceIte];rfl⟩
  ·rintro j fr2 X hj0 hj hA2 ⟨r7,rfl,r6⟩
   have d0:=hA2 0 rfl
   have d2:=hA2 2 rfl
   have d3:=hA2 3 rfl
   have d4:=hA2 4 rfl
   have d5:=hA2 5 rfl
   try simp (disch:=first|exact dq|fail) only [go_sem,↓reduceIte,q0,q2] at d0 d2 d3 d4 d5
   have hjx:j<x.length:=by omega
   have hlt2:((j:Int)<(x.length:Int))=True:=eq_true (by omega)
   have hs1:((j:Int)-1)=((j-1:Nat):Int):=by omega
   have aj:=adrI (i:=(j:Int)) (by omega) iW (by omega)
   have ai:=adrI (i:=((j-1:Nat):Int)) (by omega) iW (by omega)
   rw [Int.toNat_natCast] at aj ai
   have lj:=loadI iW hjx
   have li:=loadI iW (i:=j-1) (by omega)
   have hp:=hxb _ (getD_mem hjx)
   have hr:=hxb _ (getD_mem (l:=x) (i:=j-1) (by omega))
   have hst:=adjB_succ (o:=o) (x:=x) (j:=j)
   obtain ⟨p,ep⟩:=Int.eq_ofNat_of_zero_le hp.1
   obtain ⟨r,er⟩:=Int.eq_ofNat_of_zero_le hr.1
   rw [ep] at lj hp hst
   rw [er] at li hr hst
   rw [Int.toNat_natCast,Int.toNat_natCast] at hst
   have ap:=adrI (i:=(p:Int)) (by omega) iO (by omega)
   have ar:=adrI (i:=(r:Int)) (by omega) iO (by omega)
   rw [Int.toNat_natCast] at ap ar
   have lp:=loadI iO (i:=p) (by omega)
   have lr:=loadI iO (i:=r) (by omega)
   cases wv:adjB o x j with
   | true =>
    rw [wv] at r6
    rw [wv,Bool.true_and] at hst
    by_cases g:o.getD r 0<o.getD p 0
    ·have t1:(o.getD p 0 > o.getD r 0)=True:=eq_true g
     rw [decide_eq_true (.inr g)] at hst
     have hsp:=@Nat.succ_ne_zero;repeat' (first|simp (disch:=first|exact dq|fail) only [go_sem,↓reduceIte,hsp,r7,r6,r4,r3,d0,d2,d3,d4,d5,q0,q2,lW,hlt2,hs1,aj,lj,ap,lp,ai,li,ar,lr,t1]|refine WP_drw ?_|refine cnd_intro (fun hsp=>?_) fun hsp=>?_)
     exact ⟨agq,by omega,by rw [hst]⟩
    ·have t1:(o.getD p 0 > o.getD r 0)=False:=eq_false g
     rw [decide_eq_false (fun z=>z.elim (by omega) g)] at hst
     have hsp:=@Nat.succ_ne_zero;repeat' (first|simp (disch:=first|exact dq|fail) only [go_sem,↓reduceIte,hsp,r7,r6,r4,r3,d0,d2,d3,d4,d5,q0,q2,lW,hlt2,hs1,aj,lj,ap,lp,ai,li,ar,lr,t1]|refine WP_drw ?_|refine cnd_intro (fun hsp=>?_) fun hsp=>?_)
     exact ⟨agq,by omega,by rw [hst]⟩
   | false =>
    rw [wv] at r6
    rw [wv,Bool.false_and] at hst
    have hsp:=@Nat.succ_ne_zero;repeat' (first|simp (disch:=first|exact dq|fail) only [go_sem,↓reduceIte,hsp,r7,r6,r4,r3,d0,d2,d3,d4,d5,q0,q2,lW,hlt2]|refine WP_drw ?_|refine cnd_intro (fun hsp=>?_) fun hsp=>?_)
    exact ⟨agq,by omega,by rw [hst]⟩
  ·rintro fr2 X hA2 ⟨r7,rfl,r6⟩
   have d0:=hA2 0 rfl
   have d2:=hA2 2 rfl
   have d3:=hA2 3 rfl
   have d4:=hA2 4 rfl
   have d5:=hA2 5 rfl
   try simp (disch:=first|exact dq|fail) only [go_sem,↓reduceIte,q0,q2] at d0 d2 d3 d4 d5
   have hlt2:((k:Int)<(x.length:Int))=False:=eq_false (by omega)
   rw [hra] at r6
   cases wr:risB o x with
   | false =>
    rw [wr] at r6
    rw [wr,Bool.false_and,if_neg (by decide)] at hd
    have hsp:=@Nat.succ_ne_zero;repeat' (first|simp (disch:=first|exact dq|fail) only [go_sem,↓reduceIte,hsp,r7,r6,r4,r3,d0,d2,d3,d4,d5,q0,q2,lW,hlt2]|refine WP_drw ?_|refine cnd_intro (fun hsp=>?_) fun hsp=>?_)
    exact ⟨agq,by omega,xZ,by rw [hd];exact hS,u,rfl,by rw [hd];exact hO.ext z1⟩
   | true =>
    rw [wr] at r6
    rw [wr,Bool.true_and] at hd
    by_cases g1:b.length<x.length
    ·have t1:((x.length:Int) > (b.length:Int))=True:=eq_true (by omega)
     have hg:btG x b=true:=by unfold btG;rw [decide_eq_true g1];rfl
     rw [if_pos hg] at hd
     have hsp:=@Nat.succ_ne_zero;repeat' (first|simp (disch:=first|exact dq|fail) only [go_sem,↓reduceIte,hsp,r7,r6,r4,r3,d0,d2,d3,d4,d5,q0,q2,lW,hlt2,lV,t1]|refine WP_drw ?_|refine cnd_intro (fun hsp=>?_) fun hsp=>?_)
     exact ⟨agq,by omega,xZ,by rw [hd];exact hxm,w,rfl,by rw [hd];exact oW.low (by omega)⟩
    ·have t1:((x.length:Int) > (b.length:Int))=False:=eq_false (by omega)
     by_cases g2:x.length=b.length
     ·have t2:((x.length:Int)=(b.length:Int))=True:=eq_true (by omega)
      have hg:btG x b=btL x b:=by
       unfold btG btL
       rw [decide_eq_false g1,decide_eq_false (show ¬ x.length<b.length by omega)]
      cases wb:btL x b with
      | true =>
       rw [wb] at bfo
       rw [hg,wb,if_pos rfl] at hd
       have hsp:=@Nat.succ_ne_zero;repeat' (first|simp (disch:=first|exact dq|fail) only [go_sem,↓reduceIte,hsp,r7,r6,r4,r3,d0,d2,d3,d4,d5,q0,q2,lW,hlt2,lV,t1,t2,bfo]|refine WP_drw ?_|refine cnd_intro (fun hsp=>?_) fun hsp=>?_)
       exact ⟨agq,by omega,xZ,by rw [hd];exact hxm,w,rfl,by rw [hd];exact oW.low (by omega)⟩
      | false =>
       rw [wb] at bfo
       rw [hg,wb,if_neg (by decide)] at hd
       have hsp:=@Nat.succ_ne_zero;repeat' (first|simp (disch:=first|exact dq|fail) only [go_sem,↓reduceIte,hsp,r7,r6,r4,r3,d0,d2,d3,d4,d5,q0,q2,lW,hlt2,lV,t1,t2,bfo]|refine WP_drw ?_|refine cnd_intro (fun hsp=>?_) fun hsp=>?_)
       exact ⟨agq,by omega,xZ,by rw [hd];exact hS,u,rfl,by rw [hd];exact hO.ext z1⟩
     ·have t2:((x.length:Int)=(b.length:Int))=False:=eq_false (by omega)
      have hg:btG x b=false:=by unfold btG;rw [decide_eq_false g1,decide_eq_false g2];rfl
      rw [hg,if_neg (by decide)] at hd
      have hsp:=@Nat.succ_ne_zero;repeat' (first|simp (disch:=first|exact dq|fail) only [go_sem,↓reduceIte,hsp,r7,r6,r4,r3,d0,d2,d3,d4,d5,q0,q2,lW,hlt2,lV,t1,t2]|refine WP_drw ?_|refine cnd_intro (fun hsp=>?_) fun hsp=>?_)
      exact ⟨agq,by omega,xZ,by rw [hd];exact hS,u,rfl,by rw [hd];exact hO.ext z1⟩
 ·rintro fr K hA1 ⟨r4,xK,hS,u,r3,hO⟩
  have q0:=hA1 0 rfl
  have q2:=hA1 2 rfl
  try simp (disch:=first|exact dq|fail) only [go_sem,↓reduceIte] at q0 q2
  have hlt:((m:Int)<(m:Int))=False:=eq_false (by omega)
  have hstK:=fun base=>hst base K
  have hloK:=hlo xK
  have hsp:=@Nat.succ_ne_zero;repeat' (first|simp (disch:=first|exact dq|fail) only [go_sem,↓reduceIte,hsp,r4,r3,q0,q2,hloK,hstK,hlt]|refine WP_drw ?_|refine cnd_intro (fun hsp=>?_) fun hsp=>?_)
  exact ⟨xK,hO⟩
end Go.AM
namespace Go.AM
open Go.Proofs.Tryz
attribute [-go_sem] put_ne put_same
attribute [local go_sem ↓] put_if
def insT (e:List Int) (x:Int) (t i:Nat):List Int:=if t<i then (e.take i).insertIdx t x else e.take i
theorem erT_step {o:List Int} {f i:Nat} (hi:i<o.length):(o.take (i+1)).eraseIdx f=(o.take i).eraseIdx f++(if i=f then [] else [o.getD i 0]):=by
 have hl:(o.take i).length=i:=by rw [List.length_take];omega
 rw [take_succ' hi]
 rcases Nat.lt_or_ge f i with q|q
 ·rw [List.eraseIdx_append_of_lt_length (by omega),if_neg (by omega)]
 ·rw [List.eraseIdx_append_of_length_le (by omega),hl,List.eraseIdx_of_length_le (l:=o.take i) (by omega)]
  by_cases e:i=f
  ·rw [if_pos e,e,Nat.sub_self];rfl
  ·rw [if_neg e,List.eraseIdx_of_length_le (by simp;omega)]
theorem insT_step {e:List Int} {x:Int} {t i:Nat} (hi:i<e.length):insT e x t (i+1)=insT e x t i++(if i=t then [x] else [])++[e.getD i 0]:=by
 have hl:(e.take i).length=i:=by rw [List.length_take];omega
 unfold insT
 rw [take_succ' hi]
 rcases Nat.lt_trichotomy t i with q|q|q
 ·rw [if_pos (by omega),if_pos q,if_neg (by omega),List.append_nil,ins_eq (by rw [List.length_append,hl];omega),ins_eq (by omega),List.take_append_of_le_length (by omega),List.drop_append_of_le_length (by omega)]
  simp
 ·subst q
  rw [if_pos (by omega),if_neg (by omega),if_pos rfl,ins_eq (by rw [List.length_append,hl];omega),List.take_append_of_le_length (by omega),List.drop_append_of_le_length (by omega),List.take_of_length_le (l:=e.take t) (by omega),List.drop_eq_nil_of_le (show (e.take t).length≤t by omega)]
  simp
 ·rw [if_neg (by omega),if_neg (by omega),if_neg (by omega),List.append_nil]
theorem insT_end {e:List Int} {x:Int} {t:Nat} (ht:t≤e.length):insT e x t e.length++(if t=e.length then [x] else [])=e.insertIdx t x:=by
 unfold insT
 rw [List.take_length]
 by_cases q:t=e.length
 ·rw [if_neg (by omega),if_pos q,ins_eq ht,q,List.take_length,List.drop_length]
 ·rw [if_pos (by omega),if_neg q,List.append_nil]
theorem insT_len {e:List Int} {x:Int} {t i:Nat} (hi:i≤e.length):(insT e x t i).length≤e.length+1:=by
 unfold insT
 split
 ·have:=List.length_insertIdx_le_succ (x:=x) (i:=t) (l:=e.take i)
  rw [List.length_take] at this
  omega
 ·rw [List.length_take];omega
set_option maxHeartbeats 8000000 in
theorem run_rMake {base:Nat} {h:Heap} {v:AVal} {o:List Int} {f t:Int} (hb:base≤h.length) (hI:Ints h v o) (hn:1≤o.length∧o.length≤7) (hs:Small o) :
  Ret prog raw base (.fn 36 [] []) [v,.int .i64 f,.int .i64 t] h (fun w H=>Ext h H∧∃ x,w=.tuple [x,.bool (decide ((0≤f∧f<(o.length:Int))∧(0≤t∧t<(o.length:Int))))]∧Own encI 3 h.length H x (if (0≤f∧f<(o.length:Int))∧(0≤t∧t<(o.length:Int)) then mvL o f.toNat t.toNat else [])):=by
 have ov:=hI.one
 have hlo:=fun {K} (e:Ext h K)=>lenI (hI.ext e)
 have hl0:=lenI hI
 have f1:=fun base=>run_off (base:=base) (h:=h) (n:=f) (lo:=0) (hi:=(o.length:Int)-1)
 have f2:=fun base=>run_off (base:=base) (h:=h) (n:=t) (lo:=0) (hi:=(o.length:Int)-1)
 refine ret_raw func36 rfl (by kernel_rfl) ?_
 by_cases c1:0≤f∧f≤(o.length:Int)-1
 ·rw [decide_eq_true c1] at f1
  by_cases c2:0≤t∧t≤(o.length:Int)-1
  ·rw [decide_eq_true c2] at f2
   have hc:(0≤f∧f<(o.length:Int))∧(0≤t∧t<(o.length:Int)):=by omega
   rw [decide_eq_true hc,if_pos hc]
   obtain ⟨a,ea⟩:=Int.eq_ofNat_of_zero_le c1.1
   obtain ⟨b,eb⟩:=Int.eq_ofNat_of_zero_le c2.1
   subst ea eb
   rw [Int.toNat_natCast,Int.toNat_natCast]
   obtain ⟨e,ee⟩:∃ e,e=o.eraseIdx a:=⟨_,rfl⟩
   have hel:e.length+1=o.length:=by rw [ee,List.length_eraseIdx_of_lt (by omega)];omega
   have hes:Small e:=⟨by omega,fun y hy=>hs.2 y (by rw [ee] at hy;exact (List.eraseIdx_sublist o a).subset hy)⟩
   have hsp:=@Nat.succ_ne_zero;repeat' (first|simp (disch:=first|exact dq|fail) only [go_sem,↓reduceIte,hsp,hl0,f1,f2,Bool.not_true]|refine WP_drw ?_|refine cnd_intro (fun hsp=>?_) fun hsp=>?_)
   refine WP_count [(8,8),(10,39)] 0 o.length (Nat.zero_le _) (fun _ i fr K=>fr 10=.int .i64 (i:Int)∧Ext h K∧∃ w,fr 8=w∧Own encI 3 h.length K w ((o.take i).eraseIdx a)) ?_ ?_ ?_
   ·exact ⟨by (simp (disch:=first|exact dq|fail) only [go_sem,↓reduceIte,Int.natCast_zero];first|done|rfl),.refl,.slice none 0 0,by simp (disch:=first|exact dq|fail) only [go_sem,↓reduceIte],Own.nil⟩
   ·rintro i fr K hi0 hi hA1 ⟨r10,xK,w,r8,hW⟩
    have q0:=hA1 0 rfl
    have q1:=hA1 1 rfl
    have q2:=hA1 2 rfl
    have q6:=hA1 6 rfl
    have q7:=hA1 7 rfl
    have q9:=hA1 9 rfl
    try simp (disch:=first|exact dq|fail) only [go_sem,↓reduceIte] at q0 q1 q2 q6 q7 q9
    have hlt:((i:Int)<(o.length:Int))=True:=eq_true (by omega)
    have hloK:=hlo xK
    have iO:=hI.ext xK
    have ai:=adrI (i:=(i:Int)) (by omega) iO (by omega)
    rw [Int.toNat_natCast] at ai
    have li:=loadI iO hi
    have lK:=xK.len
    have ow:=hW.one
    have hst:=erT_step (f:=a) hi
    by_cases g:i=a
    ·have t1:((i:Int)=(a:Int))=True:=eq_true (by omega)
     rw [if_pos g,List.append_nil] at hst
     have hsp:=@Nat.succ_ne_zero;repeat' (first|simp (disch:=first|exact dq|fail) only [go_sem,↓reduceIte,hsp,r10,r8,q0,q1,q2,q6,q7,q9,hloK,hlt,t1,not_true,decide_false]|refine WP_drw ?_|refine cnd_intro (fun hsp=>?_) fun hsp=>?_)
     exact ⟨agq,by omega,xK,w,rfl,by rw [hst];exact hW⟩
    ·have t1:((i:Int)=(a:Int))=False:=eq_false (by omega)
     rw [if_neg g] at hst
     have hle:((o.take i).eraseIdx a).length≤o.length:=Nat.le_trans (List.eraseIdx_sublist _ _).length_le (by rw [List.length_take];omega)
     obtain ⟨w',K2,ea,oW,lW,eW,oneW,kW⟩:=OwnE.snocI (base:=base) (x:=o.getD i 0) (.inl hW) (by omega) lK (by omega)
     have hsp:=@Nat.succ_ne_zero;repeat' (first|simp (disch:=first|exact dq|fail) only [go_sem,↓reduceIte,hsp,r10,r8,q0,q1,q2,q6,q7,q9,hloK,hlt,t1,not_false_iff,decide_true,ai,li,ea]|refine WP_drw ?_|refine cnd_intro (fun hsp=>?_) fun hsp=>?_)
     exact ⟨agq,by omega,eW _ (Nat.le_refl _) xK,w',rfl,by rw [hst];exact oW⟩
   ·rintro fr K hA1 ⟨r10,xK,u,q8,hU⟩
    have q0:=hA1 0 rfl
    have q1:=hA1 1 rfl
    have q2:=hA1 2 rfl
    have q6:=hA1 6 rfl
    have q7:=hA1 7 rfl
    have q9:=hA1 9 rfl
    try simp (disch:=first|exact dq|fail) only [go_sem,↓reduceIte] at q0 q1 q2 q6 q7 q9
    have hlt:((o.length:Int)<(o.length:Int))=False:=eq_false (by omega)
    have hloK:=hlo xK
    have ou:=hU.one
    have lK:=xK.len
    rw [List.take_length,← ee] at hU
    obtain ⟨x,ex⟩:∃ x,x=o.getD a 0:=⟨_,rfl⟩
    have hsp:=@Nat.succ_ne_zero;repeat' (first|simp (disch:=first|exact dq|fail) only [go_sem,↓reduceIte,hsp,r10,q0,q1,q2,q6,q7,q9,q8,hloK,hlt]|refine WP_drw ?_|refine cnd_intro (fun hsp=>?_) fun hsp=>?_)
    refine WP_count [(9,62)] 0 e.length (Nat.zero_le _) (fun _ i fr X=>fr 11=.int .i64 (i:Int)∧Ext K X∧∃ w,fr 9=w∧Own encI 3 K.length X w (insT e x b i)) ?_ ?_ ?_
    ·exact ⟨by (simp (disch:=first|exact dq|fail) only [go_sem,↓reduceIte,Int.natCast_zero];first|done|rfl),.refl,.slice none 0 0,by simp (disch:=first|exact dq|fail) only [go_sem,↓reduceIte,q0,q1,q2,q6,q7,q9,q8],by unfold insT;simp;exact Own.nil⟩
    ·rintro i fr2 X hi0 hi hA2 ⟨r11,xX,w,r9,hW⟩
     have d0:=hA2 0 rfl
     have d1:=hA2 1 rfl
     have d2:=hA2 2 rfl
     have d6:=hA2 6 rfl
     have d7:=hA2 7 rfl
     have d8:=hA2 8 rfl
     try simp (disch:=first|exact dq|fail) only [go_sem,↓reduceIte,q0,q1,q2,q6,q7,q8] at d0 d1 d2 d6 d7 d8
     have iE:=own_ints (hU.ext xX) hes
     have hlE:=lenI iE
     have iO:=hI.ext (xK.trans xX)
     have hlt2:((i:Int)<(e.length:Int))=True:=eq_true (by omega)
     have aa:=adrI (i:=(a:Int)) (by omega) iO (by omega)
     have ai:=adrI (i:=(i:Int)) (by omega) iE (by omega)
     rw [Int.toNat_natCast] at aa ai
     have la:=loadI iO (i:=a) (by omega)
     rw [← ex] at la
     have li:=loadI iE hi
     have lX:=xX.len
     have ow:=hW.one
     have hil:=insT_len (x:=x) (t:=b) (Nat.le_of_lt hi)
     have hst:=insT_step (x:=x) (t:=b) hi
     by_cases g:i=b
     ·have t1:((i:Int)=(b:Int))=True:=eq_true (by omega)
      rw [if_pos g] at hst
      obtain ⟨w',X2,ea,oW,lW,eW,oneW,kW⟩:=OwnE.snocI (base:=base) (x:=x) (.inl hW) (by omega) lX (by omega)
      have xX2:=eW _ (Nat.le_refl _) xX
      have iE2:=own_ints (hU.ext xX2) hes
      have li2:=loadI iE2 hi
      have ai2:=adrI (i:=(i:Int)) (by omega) iE2 (by omega)
      rw [Int.toNat_natCast] at ai2
      obtain ⟨w2,X3,eb,oW2,lW2,eW2,oneW2,kW2⟩:=OwnE.snocI (base:=base) (x:=e.getD i 0) (.inl oW) (by omega) xX2.len (by simp;omega)
      have hsp:=@Nat.succ_ne_zero;repeat' (first|simp (disch:=first|exact dq|fail) only [go_sem,↓reduceIte,hsp,r11,r9,d0,d1,d2,d6,d7,d8,q0,q1,q2,q6,q7,q9,q8,hlE,hlt2,t1,aa,la,ea,ai2,li2,eb]|refine WP_drw ?_|refine cnd_intro (fun hsp=>?_) fun hsp=>?_)
      exact ⟨agq,by omega,eW2 _ (Nat.le_refl _) xX2,w2,rfl,by rw [hst];exact oW2⟩
     ·have t1:((i:Int)=(b:Int))=False:=eq_false (by omega)
      rw [if_neg g,List.append_nil] at hst
      obtain ⟨w',X2,ea,oW,lW,eW,oneW,kW⟩:=OwnE.snocI (base:=base) (x:=e.getD i 0) (.inl hW) (by omega) lX (by omega)
      have hsp:=@Nat.succ_ne_zero;repeat' (first|simp (disch:=first|exact dq|fail) only [go_sem,↓reduceIte,hsp,r11,r9,d0,d1,d2,d6,d7,d8,q0,q1,q2,q6,q7,q9,q8,hlE,hlt2,t1,ai,li,ea]|refine WP_drw ?_|refine cnd_intro (fun hsp=>?_) fun hsp=>?_)
      exact ⟨agq,by omega,eW _ (Nat.le_refl _) xX,w',rfl,by rw [hst];exact oW⟩
    ·rintro fr2 X hA2 ⟨r11,xX,w,r9,hW⟩
     have d0:=hA2 0 rfl
     have d1:=hA2 1 rfl
     have d2:=hA2 2 rfl
     have d6:=hA2 6 rfl
     have d7:=hA2 7 rfl
     have d8:=hA2 8 rfl
     try simp (disch:=first|exact dq|fail) only [go_sem,↓reduceIte,q0,q1,q2,q6,q7,q8] at d0 d1 d2 d6 d7 d8
     have iE:=own_ints (hU.ext xX) hes
     have hlE:=lenI iE
     have iO:=hI.ext (xK.trans xX)
     have hlt2:((e.length:Int)<(e.length:Int))=False:=eq_false (by omega)
     have aa:=adrI (i:=(a:Int)) (by omega) iO (by omega)
     rw [Int.toNat_natCast] at aa
     have la:=loadI iO (i:=a) (by omega)
     rw [← ex] at la
     have lX:=xX.len
     have ow:=hW.one
     have hil:=insT_len (e:=e) (x:=x) (t:=b) (Nat.le_refl _)
     have hst:=insT_end (e:=e) (x:=x) (t:=b) (by omega)
     have hmv:mvL o a b=e.insertIdx b x:=by unfold mvL;rw [ee,ex]
     rw [hmv]
     by_cases g:b=e.length
     ·have t1:((b:Int)=(e.length:Int))=True:=eq_true (by omega)
      rw [if_pos g] at hst
      obtain ⟨w',X2,ea,oW,lW,eW,oneW,kW⟩:=OwnE.snocI (base:=base) (x:=x) (.inl hW) (by omega) lX (by omega)
      have hsp:=@Nat.succ_ne_zero;repeat' (first|simp (disch:=first|exact dq|fail) only [go_sem,↓reduceIte,hsp,r11,r9,d0,d1,d2,d6,d7,d8,q0,q1,q2,q6,q7,q9,q8,hlE,hlt2,t1,aa,la,ea]|refine WP_drw ?_|refine cnd_intro (fun hsp=>?_) fun hsp=>?_)
      exact ⟨xK.trans (eW _ (Nat.le_refl _) xX),_,rfl,by rw [← hst];exact oW.low (by omega)⟩
     ·have t1:((b:Int)=(e.length:Int))=False:=eq_false (by omega)
      rw [if_neg g,List.append_nil] at hst
      have hsp:=@Nat.succ_ne_zero;repeat' (first|simp (disch:=first|exact dq|fail) only [go_sem,↓reduceIte,hsp,r11,r9,d0,d1,d2,d6,d7,d8,q0,q1,q2,q6,q7,q9,q8,hlE,hlt2,t1]|refine WP_drw ?_|refine cnd_intro (fun hsp=>?_) fun hsp=>?_)
      exact ⟨xK.trans xX,_,rfl,by rw [← hst];exact hW.low (by omega)⟩
  ·rw [decide_eq_false c2] at f2
   have hc:¬ ((0≤f∧f<(o.length:Int))∧(0≤t∧t<(o.length:Int))):=by omega
   rw [decide_eq_false hc,if_neg hc]
   have hsp:=@Nat.succ_ne_zero;repeat' (first|simp (disch:=first|exact dq|fail) only [go_sem,↓reduceIte,hsp,hl0,f1,f2,Bool.not_true,Bool.not_false]|refine WP_drw ?_|refine cnd_intro (fun hsp=>?_) fun hsp=>?_)
   exact ⟨.refl,_,rfl,Own.nil⟩
 ·rw [decide_eq_false c1] at f1
  have hc:¬ ((0≤f∧f<(o.length:Int))∧(0≤t∧t<(o.length:Int))):=by omega
  rw [decide_eq_false hc,if_neg hc]
  have hsp:=@Nat.succ_ne_zero;repeat' (first|simp (disch:=first|exact dq|fail) only [go_sem,↓reduceIte,hsp,hl0,f1,f2,Bool.not_false]|refine WP_drw ?_|refine cnd_intro (fun hsp=>?_) fun hsp=>?_)
  exact ⟨.refl,_,rfl,Own.nil⟩
theorem run_dupM {base:Nat} {h:Heap} {v:AVal} {l:List (Int × Int)} (hb:base≤h.length) (hR:Rows encM h v l) (hl:l.length≤1000) :
  Ret prog raw base (.fn 32 [] []) [v] h (fun w H=>Ext h H∧OwnE encM 41 h.length H w l):=by
 have ho:=hR.one
 have hn:=hR.len Fc.el37
 refine ret_raw func32 rfl (by kernel_rfl) ?_
 by_cases hl0:l=[]
 ·subst hl0
  have ha:=fun base=>app_none (base:=base) hR Fc.el37
  have hsp:=@Nat.succ_ne_zero;repeat' (first|simp (disch:=first|exact dq|fail) only [go_sem,↓reduceIte,hsp,hn,mk_none Fc.el37,ha,List.length_nil,Int.natCast_zero]|refine WP_drw ?_|refine cnd_intro (fun hsp=>?_) fun hsp=>?_)
  exact ⟨.refl,.inr ⟨rfl,rfl⟩⟩
 ·have hl1:0<l.length:=List.length_pos_iff.2 hl0
  have hm:=mk_room (h:=h) (n:=l.length) Fc.el37 hl1 (by omega)
  have ha:=app_fill (base:=base) hR Fc.el37 rfl encM_sc rfl hb
  have hsp:=@Nat.succ_ne_zero;repeat' (first|simp (disch:=first|exact dq|fail) only [go_sem,↓reduceIte,hsp,hn,hm,ha]|refine WP_drw ?_|refine cnd_intro (fun hsp=>?_) fun hsp=>?_)
  exact ⟨.app .refl,.inl (.inr ⟨h.length,0,rfl,get_eq rfl,Nat.le_refl _,hl1⟩)⟩
theorem run_eqM {base:Nat} {h:Heap} {a b:AVal} {l:List (Int × Int)} (ha:Rows encM h a l) (hb:Rows encM h b l) (hl:l.length≤1000):callL prog raw base (.fn 42 [] []) [a,b] h=some (.bool true,h):=by
 have e:∀ base,callL prog raw base (.fn 90 [] []) [a,b] h=some (.bool true,h):=fun base=>by
  have h1:=ha.len Fc.el37
  have h2:=hb.len Fc.el37
  have oa:=ha.one
  have ob:=hb.one
  refine callL_run func90 rfl rfl ?_
  have hsp:=@Nat.succ_ne_zero;repeat' (first|simp (disch:=first|exact dq|fail) only [go_sem,↓reduceIte,hsp,h1,h2]|refine WP_drw ?_|refine cnd_intro (fun hsp=>?_) fun hsp=>?_)
  refine WP_count [(4,5),(13,25)] 0 l.length (Nat.zero_le _) (fun H0 n fr h'=>fr 13=.int .i64 (n:Int)∧h'=H0) ?_ ?_ ?_
  ·exact ⟨by (simp (disch:=first|exact dq|fail) only [go_sem,↓reduceIte,Int.natCast_zero];first|done|rfl),rfl⟩
  ·rintro n fr H hn0 hn hA ⟨r13,eH⟩
   subst eH
   have p0:=hA 0 rfl
   have p1:=hA 1 rfl
   have p12:=hA 12 rfl
   try simp (disch:=first|exact dq|fail) only [go_sem,↓reduceIte] at p0 p1 p12
   have hlt:((n:Int)<(l.length:Int))=True:=eq_true (by omega)
   have hx:=getD_some (d:=((0:Int),(0:Int))) hn
   obtain ⟨x,ex⟩:∃ x,x=l.getD n ((0:Int),(0:Int)):=⟨_,rfl⟩
   rw [← ex] at hx
   have a1:=ha.addr (P:=prog) (i:=(n:Int)) Fc.el37 Fc.ar37 (by omega) (by omega)
   have a2:=hb.addr (P:=prog) (i:=(n:Int)) Fc.el37 Fc.ar37 (by omega) (by omega)
   rw [Int.toNat_natCast] at a1 a2
   have d1:loadP prog H 41 (elAdr a encM.z n 0)=some (.agg [.int .i64 x.1,.int .i64 x.2]):=ha.load (P:=prog) Fc.ty41 hx
   have d2:loadP prog H 41 (elAdr b encM.z n 0)=some (.agg [.int .i64 x.1,.int .i64 x.2]):=hb.load (P:=prog) Fc.ty41 hx
   have hsp:=@Nat.succ_ne_zero;repeat' (first|simp (disch:=first|exact dq|fail) only [go_sem,↓reduceIte,hsp,r13,p0,p1,p12,hlt,a1,a2,d1,d2,Fc.ne41,eq_self,and_self,not_true,decide_false]|refine WP_drw ?_|refine cnd_intro (fun hsp=>?_) fun hsp=>?_)
   exact ⟨agq,by omega⟩
  ·rintro fr H hA ⟨r13,eH⟩
   subst eH
   have p0:=hA 0 rfl
   have p1:=hA 1 rfl
   have p12:=hA 12 rfl
   try simp (disch:=first|exact dq|fail) only [go_sem,↓reduceIte] at p0 p1 p12
   have hlt:((l.length:Int)<(l.length:Int))=False:=eq_false (by omega)
   have hsp:=@Nat.succ_ne_zero;repeat' (first|simp (disch:=first|exact dq|fail) only [go_sem,↓reduceIte,hsp,r13,p0,p1,p12,hlt]|refine WP_drw ?_|refine cnd_intro (fun hsp=>?_) fun hsp=>?_)
   exact fB rfl
 refine callL_run func42 rfl rfl ?_
 have hsp:=@Nat.succ_ne_zero;repeat' (first|simp (disch:=first|exact dq|fail) only [go_sem,↓reduceIte,hsp,e]|refine WP_drw ?_|refine cnd_intro (fun hsp=>?_) fun hsp=>?_)
 exact fB rfl
theorem RelZ.one {H:Heap} {v:AVal} {ps:List (List Int)} (h:RelZ H v ps):One v:=by obtain ⟨vs,h1,_⟩:=h;exact h1.one
theorem RelZ.len {H:Heap} {v:AVal} {ps:List (List Int)} (h:RelZ H v ps):lenOpA prog H 32 v=some (.int .i64 (ps.length:Int)):=by
 obtain ⟨vs,h1,h2,_⟩:=h
 rw [← h2];exact h1.len Fc.el32
theorem RelZ.at {H:Heap} {v:AVal} {ps:List (List Int)} (h:RelZ H v ps) (hl:ps.length≤1000) {i:Nat} {t:List Int} (ht:ps[i]?=some t) :
  ∃ a w,indexAddrA prog 32 v (.int .i64 (i:Int))=some a∧(∀ K,Ext H K→loadP prog K 22 a=some w)∧Ints H w t:=by
 obtain ⟨vs,h1,h2,h3⟩:=h
 have hi:i<ps.length:=(List.getElem?_eq_some_iff.1 ht).1
 have hx:vs[i]?=some vs[i]:=List.getElem?_eq_getElem (by omega)
 have ad:=h1.addr (P:=prog) (i:=(i:Int)) Fc.el32 Fc.ar32 (by omega) (by omega)
 rw [Int.toNat_natCast] at ad
 have hw:=h3 i _ _ hx ht
 refine ⟨_,vs[i],ad,fun K e=>?_,hw⟩
 exact (h1.ext e).cell (P:=prog) Fc.ty22 hx (o:=0) (a:=vs[i]) (by simp only [encZ,norm_one hw.one];rfl)
set_option maxHeartbeats 2000000 in
theorem run_eqZ {base:Nat} {h:Heap} {a b:AVal} {ps:List (List Int)} (ha:RelZ h a ps) (hb:RelZ h b ps) (hl:ps.length≤1000):callL prog raw base (.fn 41 [] []) [a,b] h=some (.bool true,h):=by
 have e:∀ base,callL prog raw base (.fn 89 [] []) [a,b,.fn 88 [] []] h=some (.bool true,h):=fun base=>by
  have h1:=ha.len
  have h2:=hb.len
  have oa:=ha.one
  have ob:=hb.one
  refine callL_run func89 rfl rfl ?_
  have hsp:=@Nat.succ_ne_zero;repeat' (first|simp (disch:=first|exact dq|fail) only [go_sem,↓reduceIte,hsp,h1,h2]|refine WP_drw ?_|refine cnd_intro (fun hsp=>?_) fun hsp=>?_)
  refine WP_count [(6,9),(17,31)] 0 ps.length (Nat.zero_le _) (fun H0 n fr h'=>fr 17=.int .i64 (n:Int)∧h'=H0) ?_ ?_ ?_
  ·exact ⟨by (simp (disch:=first|exact dq|fail) only [go_sem,↓reduceIte,Int.natCast_zero];first|done|rfl),rfl⟩
  ·rintro n fr H hn0 hn hA ⟨r17,eH⟩
   subst eH
   have p1:=hA 1 rfl
   have p2:=hA 2 rfl
   have p15:=hA 15 rfl
   have p16:=hA 16 rfl
   try simp (disch:=first|exact dq|fail) only [go_sem,↓reduceIte] at p1 p2 p15 p16
   have hlt:((n:Int)<(ps.length:Int))=True:=eq_true (by omega)
   obtain ⟨t,et⟩:∃ t,t=ps[n]:=⟨_,rfl⟩
   have hx:ps[n]?=some t:=by rw [et];exact List.getElem?_eq_getElem hn
   obtain ⟨q1,w1,a1,d1,i1⟩:=ha.at hl hx
   obtain ⟨q2,w2,a2,d2,i2⟩:=hb.at hl hx
   have d1':=d1 H .refl
   have d2':=d2 H .refl
   have u1:=i1.one
   have u2:=i2.one
   have eq:=fun base=>run_equal (base:=base) i1 i2
   rw [decide_eq_true rfl] at eq
   have hsp:=@Nat.succ_ne_zero;repeat' (first|simp (disch:=first|exact dq|fail) only [go_sem,↓reduceIte,hsp,r17,p1,p2,p15,p16,hlt,a1,a2,d1',d2',eq,Bool.not_true]|refine WP_drw ?_|refine cnd_intro (fun hsp=>?_) fun hsp=>?_)
   exact ⟨agq,by omega⟩
  ·rintro fr H hA ⟨r17,eH⟩
   subst eH
   have p1:=hA 1 rfl
   have p2:=hA 2 rfl
   have p15:=hA 15 rfl
   have p16:=hA 16 rfl
   try simp (disch:=first|exact dq|fail) only [go_sem,↓reduceIte] at p1 p2 p15 p16
   have hlt:((ps.length:Int)<(ps.length:Int))=False:=eq_false (by omega)
   have hsp:=@Nat.succ_ne_zero;repeat' (first|simp (disch:=first|exact dq|fail) only [go_sem,↓reduceIte,hsp,r17,p1,p2,p15,p16,hlt]|refine WP_drw ?_|refine cnd_intro (fun hsp=>?_) fun hsp=>?_)
   exact fB rfl
 refine callL_run func41 rfl rfl ?_
 have hsp:=@Nat.succ_ne_zero;repeat' (first|simp (disch:=first|exact dq|fail) only [go_sem,↓reduceIte,hsp,e]|refine WP_drw ?_|refine cnd_intro (fun hsp=>?_) fun hsp=>?_)
 exact fB rfl
end Go.AM
namespace Go.AM
open Go.Proofs.Tryz
attribute [-go_sem] put_ne put_same
attribute [local go_sem ↓] put_if
theorem app_set {A:Heap} {base id i n:Nat} {x w:AVal} {vs:List AVal} (hg:A[id]?=some (rowE encZ 22 vs 0)) (hn:vs.length=n) (hi:i<n) (h1:lenA 1 x=some 1) (h2:firstN A 1 1 x=some (flat encZ [w])) (hb:base≤id) :
  appendA prog base A 32 (.slice (some ⟨id,0,0⟩) i n) x=some (.slice (some ⟨id,0,0⟩) (i+1) n,A.set id (rowE encZ 22 (vs.set i w) 0)):=by
 have e1:encZ.z=1:=rfl
 have hs:(flat encZ [w]).all AVal.scalar=true:=flat_scalar encZ_sc _
 have hf:flat encZ [w]=encZ.cells w:=by simp [flat]
 have hq:=stQ_rowE (E:=encZ) (e:=22) (l:=vs) (i:=i) (base:=base) (id:=id) (ver:=0) (x:=w) (K:=fun b=>A.set id b) (by omega) (encZ_sc w) hb
 rw [e1,Nat.mul_one] at hq
 simp only [appendA,Fc.el32,h1,h2,hs,if_true]
 rw [if_pos (by omega)]
 show (match storeN base A ⟨id,0,0+i * 1⟩ (flat encZ [w]) with|some h'=>_|.none=>_)=_
 rw [Nat.zero_add,Nat.mul_one,store_eq,hg,hf,hq]
theorem bs_set {A:Heap} {base id i n:Nat} {v:AVal} {vs:List AVal} (hg:A[id]?=some (rowE encZ 22 vs 0)) (hn:vs.length=n) (hi:i<n) (h1:One v) (hb:base≤id) :
  ∃ x A',(∀ {lit:Bool},lit=true→bsA prog lit A 32 1 [(0,v)]=some (x,A'))∧Ext A A'∧appendA prog base A' 32 (.slice (some ⟨id,0,0⟩) i n) x=some (.slice (some ⟨id,0,0⟩) (i+1) n,A'.set id (rowE encZ 22 (vs.set i v) 0)):=by
 have hn1:=norm_one h1
 have hf:flat encZ [v]=[v]:=by simp [flat,encZ,hn1]
 rcases h1 with ⟨q1,q2,q3⟩
 have hr:rowOf prog 32 1 [(0,v)]=some (22,1,[v]):=by
  simp [rowOf,Fc.el32,fillA,repCells,q1,q2,q3,splice]
 by_cases hbare:AVal.bare v=true
 ·refine ⟨.vals [v],A,fun {lit} hlit=>?_,.refl,app_set hg hn hi (by simp [lenA]) (by rw [hf];simp [firstN]) hb⟩
  subst hlit
  simp only [bsA,hr]
  rw [if_neg (by decide),if_pos ⟨trivial,trivial,by simp [hbare]⟩]
 ·have hR:Rows encZ (A++[rowE encZ 22 [v] 0]) (.slice (some ⟨A.length,0,0⟩) 1 1) [v]:=Rows.own (get_eq rfl) rfl (by simp)
  refine ⟨.slice (some ⟨A.length,0,0⟩) 1 1,A++[rowE encZ 22 [v] 0],fun {lit} hlit=>?_,.app .refl,app_set (get_app hg) hn hi hR.lenA hR.firstN hb⟩
  simp only [bsA,hr]
  rw [if_neg (by decide),if_neg (fun q=>hbare (by simpa using q.2.2))]
  simp [rowE,flat,encZ,hn1]
set_option maxHeartbeats 4000000 in
theorem run_dupZ {base:Nat} {h:Heap} {v:AVal} {ps:List (List Int)} (hb:base≤h.length) (hP:RelZ h v ps) (hl:ps.length≤1000) (hpl:∀ p ∈ ps,p.length≤1000∧Small p) :
  Ret prog raw base (.fn 31 [] []) [v] h (fun w H=>Ext h H∧RelZ H w ps):=by
 have ho:=hP.one
 have hn:=hP.len
 refine ret_raw func31 rfl (by kernel_rfl) ?_
 by_cases hl0:ps=[]
 ·subst hl0
  have hsp:=@Nat.succ_ne_zero;repeat' (first|simp (disch:=first|exact dq|fail) only [go_sem,↓reduceIte,hsp,hn,mk_none Fc.el32,List.length_nil,Int.natCast_zero]|refine WP_drw ?_|refine cnd_intro (fun hsp=>?_) fun hsp=>?_)
  rw [WP_loop1]
  have hsp:=@Nat.succ_ne_zero;repeat' (first|simp (disch:=first|exact dq|fail) only [go_sem,↓reduceIte,hsp,hn,List.length_nil,Int.natCast_zero]|refine WP_drw ?_|refine cnd_intro (fun hsp=>?_) fun hsp=>?_)
  exact ⟨.refl,[],OwnE.rows (.inr ⟨rfl,rfl⟩:OwnE encZ 22 0 h .emp []) (by simp),rfl,fun i x t q=>by simp at q⟩
 ·have hl1:0<ps.length:=List.length_pos_iff.2 hl0
  obtain ⟨n,en⟩:∃ n,n=ps.length:=⟨_,rfl⟩
  rw [← en] at hn hl1 hl
  have hm:=mk_room (h:=h) (n:=n) Fc.el32 hl1 (by omega)
  obtain ⟨z,ez⟩:∃ z:AVal,z=.slice none 0 0:=⟨_,rfl⟩
  obtain ⟨G,eG⟩:∃ G,G=h++[rowE encZ 22 (List.replicate n z) 0]:=⟨_,rfl⟩
  have hm':makeSliceA prog h 32 (.int .i64 0) (.int .i64 (n:Int))=some (.slice (some ⟨h.length,0,0⟩) 0 n,G):=by
   rw [hm,eG,ez,rowE,← rep_flat];rfl
  have xG:Ext h G:=by rw [eG];exact .app .refl
  have lG:G.length=h.length+1:=by rw [eG];simp
  have gG:G[h.length]?=some (rowE encZ 22 (List.replicate n z) 0):=by rw [eG];exact get_eq rfl
  have hnG:=(hP.ext xG).len
  rw [← en] at hnG
  have hsp:=@Nat.succ_ne_zero;repeat' (first|simp (disch:=first|exact dq|fail) only [go_sem,↓reduceIte,hsp,hn,hm',hnG]|refine WP_drw ?_|refine cnd_intro (fun hsp=>?_) fun hsp=>?_)
  refine WP_count [(3,5),(11,20)] 0 n (Nat.zero_le _) (fun _ i fr K=>fr 11=.int .i64 (i:Int)∧Ext h K∧h.length+1≤K.length∧fr 3=.slice (some ⟨h.length,0,0⟩) i n∧∃ vs,K[h.length]?=some (rowE encZ 22 vs 0)∧vs.length=n∧∀ (m:Nat) x t,m<i→vs[m]?=some x→ps[m]?=some t→OwnE encI 3 (h.length+1) K x t) ?_ ?_ ?_
  ·exact ⟨by (simp (disch:=first|exact dq|fail) only [go_sem,↓reduceIte,Int.natCast_zero];first|done|rfl),xG,by omega,by (simp (disch:=first|exact dq|fail) only [go_sem,↓reduceIte,Int.natCast_zero];first|done|rfl),_,gG,by simp,fun m x t hm=>by omega⟩
  ·rintro i fr K hi0 hi hA ⟨r11,xK,lK,r3,vs,gK,lvs,hvs⟩
   have q2:=hA 2 rfl
   have q9:=hA 9 rfl
   have q10:=hA 10 rfl
   try simp (disch:=first|exact dq|fail) only [go_sem,↓reduceIte] at q2 q9 q10
   have hlt:((i:Int)<(n:Int))=True:=eq_true (by omega)
   obtain ⟨t,et⟩:∃ t,t=ps[i]'(by omega):=⟨_,rfl⟩
   have hx:ps[i]?=some t:=by rw [et];exact List.getElem?_eq_getElem (by omega)
   obtain ⟨hp1,hps⟩:=hpl t (List.mem_of_getElem? hx)
   obtain ⟨a,w,ad,ld,iw⟩:=hP.at (by omega) hx
   have ldK:=ld K xK
   have ow:=iw.one
   obtain ⟨w',K1,e1,x1,oW⟩:=run_dupI (base:=base) (h:=K) (by omega) (iw.ext xK) hp1
   have ow':=oW.one
   have l1:=x1.len
   have gK1:=x1.get gK
   obtain ⟨y,K2,hbs,x2,hap⟩:=bs_set (base:=base) gK1 lvs hi ow' (by omega)
   have gK2:=x2.get gK1
   have hs:(i:Int)+1=((i+1:Nat):Int):=by omega
   have hsp:=@Nat.succ_ne_zero;repeat' (first|simp (disch:=first|exact dq|fail) only [go_sem,↓reduceIte,hsp,r11,r3,q2,q9,q10,hlt,ad,ldK,e1,hbs,hap]|refine WP_drw ?_|refine cnd_intro (fun hsp=>?_) fun hsp=>?_)
   refine ⟨agq,by omega,((xK.trans x1).trans x2).set (Nat.le_refl _),by have:=x2.len;omega,_,List.getElem?_set_self (lt_of_get gK2),by rw [List.length_set,lvs],fun m x t' hm h1 h2=>?_⟩
   have box:∀ {E:List Int} {y:AVal},OwnE encI 3 (h.length+1) K2 y E→OwnE encI 3 (h.length+1) (K2.set h.length (rowE encZ 22 (vs.set i w') 0)) y E:=fun {E y} o=>by
    rcases o with (o|⟨id,ver,o1,o2,o3,o4⟩)|o
    ·exact .inl (.inl o)
    ·exact .inl (.inr ⟨id,ver,o1,by rw [List.getElem?_set_ne (by omega)];exact o2,o3,o4⟩)
    ·exact .inr o
   by_cases e:m=i
   ·subst e
    rw [List.getElem?_set_self (by omega)] at h1
    rw [hx] at h2
    cases h1;cases h2
    exact box ((oW.ext x2).low lK)
   ·rw [List.getElem?_set_ne (by omega)] at h1
    exact box ((hvs m x t' (by omega) h1 h2).ext (x1.trans x2))
  ·rintro fr K hA ⟨r11,xK,lK,r3,vs,gK,lvs,hvs⟩
   have q2:=hA 2 rfl
   have q9:=hA 9 rfl
   have q10:=hA 10 rfl
   try simp (disch:=first|exact dq|fail) only [go_sem,↓reduceIte] at q2 q9 q10
   have hlt:((n:Int)<(n:Int))=False:=eq_false (by omega)
   have hsp:=@Nat.succ_ne_zero;repeat' (first|simp (disch:=first|exact dq|fail) only [go_sem,↓reduceIte,hsp,r11,r3,q2,q9,q10,hlt]|refine WP_drw ?_|refine cnd_intro (fun hsp=>?_) fun hsp=>?_)
   refine ⟨xK,vs,?_,by omega,fun m x t h1 h2=>?_⟩
   ·exact Rows.own gK lvs.symm (by omega)
   ·have hm:m<n:=by have:=(List.getElem?_eq_some_iff.1 h2).1;omega
    exact ownE_ints (hvs m x t hm h1 h2) (hpl t (List.mem_of_getElem? h2)).2
set_option maxRecDepth 100000 in
set_option maxHeartbeats 4000000 in
theorem run_ShowsZ {base:Nat} {h:Heap} {v pv:AVal} {o:List Int} {ps:List (List Int)} (hI:Ints h v o) (hP:RelZ h pv ps) (hl:ps.length≤1000) (hpl:∀ p ∈ ps,p.length≤1000∧Small p) :
  callL prog raw base (.fn 38 [] []) [v,pv] h=some (.tuple [.int .i64 (shwE o ps).1,.int .i64 (shwE o ps).2],h):=by
 have ha:=fun base=>run_alone (base:=base) hI
 have ov:=hI.one
 have op:=hP.one
 by_cases c:aloL o=0
 ·obtain ⟨c1,c2,c3⟩:=aloL_iff.1 c
  rw [c] at ha
  have hlo:=lenI hI
  have hlp:=hP.len
  refine callL_run func38 rfl rfl ?_
  have hsp:=@Nat.succ_ne_zero;repeat' (first|simp (disch:=first|exact dq|fail) only [go_sem,↓reduceIte,hsp,ha,eq_self,hlp]|refine WP_drw ?_|refine cnd_intro (fun hsp=>?_) fun hsp=>?_)
  refine WP_count [(4,11),(19,71)] 0 ps.length (Nat.zero_le _) (fun _ j fr K=>fr 19=.int .i64 (j:Int)∧Ext h K∧(ps.take j).all (pilB o)=true∧∃ w,fr 7=w∧Own encI 3 h.length K w (ps.take j).flatten∧(ps.take j).flatten.length≤j * 1000∧Small (ps.take j).flatten) ?_ ?_ ?_
  ·exact ⟨by (simp (disch:=first|exact dq|fail) only [go_sem,↓reduceIte,Int.natCast_zero];first|done|rfl),.refl,rfl,.slice none 0 0,by simp (disch:=first|exact dq|fail) only [go_sem,↓reduceIte],Own.nil,by simp,⟨by simp,fun x hx=>by simp at hx⟩⟩
  ·rintro j fr K hj0 hj hA ⟨r19,xK,hall,w,r7,hO,hfl,hfs⟩
   have q0:=hA 0 rfl
   have q1:=hA 1 rfl
   have q17:=hA 17 rfl
   have q18:=hA 18 rfl
   try simp (disch:=first|exact dq|fail) only [go_sem,↓reduceIte] at q0 q1 q17 q18
   have hlt:((j:Int)<(ps.length:Int))=True:=eq_true (by omega)
   obtain ⟨pl,epl⟩:∃ pl,pl=ps[j]:=⟨_,rfl⟩
   have hpj:ps[j]?=some pl:=by rw [epl];exact List.getElem?_eq_getElem hj
   obtain ⟨hp1,hps⟩:=hpl pl (List.mem_of_getElem? hpj)
   obtain ⟨a,z,ad,ld,oz⟩:=hP.at hl hpj
   have ldK:=ld K xK
   have iz:=oz.ext xK
   have ozz:=iz.one
   have ow:=hO.one
   have hlz:=lenI iz
   have hIK:=hI.ext xK
   have hloK:=lenI hIK
   have lK:=xK.len
   have hfail:pilB o pl=false→shwE o ps=(0,8):=fun q=>by
    unfold shwE
    rw [if_neg (by simp [c]),if_pos (all_no hpj q)]
   have hsp:=@Nat.succ_ne_zero;repeat' (first|simp (disch:=first|exact dq|fail) only [go_sem,↓reduceIte,hsp,r19,r7,q0,q1,q17,q18,hlt,ad,ldK,hlz]|refine WP_drw ?_|refine cnd_intro (fun hsp=>?_) fun hsp=>?_)
   refine WP_count [(4,5),(10,11),(25,64)] 0 pl.length (Nat.zero_le _) (fun _ i fr K'=>fr 25=.int .i64 (i:Int)∧K'=K∧∀ i',i'<i→badAt o pl i'=false) ?_ ?_ ?_
   ·exact ⟨by (simp (disch:=first|exact dq|fail) only [go_sem,↓reduceIte,Int.natCast_zero];first|done|rfl),rfl,fun i' q=>by omega⟩
   ·rintro i fr2 K' hi0 hi hA2 ⟨r25,eK,hno⟩
    subst eK
    have d0:=hA2 0 rfl
    have d1:=hA2 1 rfl
    have d7:=hA2 7 rfl
    have d9:=hA2 9 rfl
    have d17:=hA2 17 rfl
    have d18:=hA2 18 rfl
    have d19:=hA2 19 rfl
    have d23:=hA2 23 rfl
    have d24:=hA2 24 rfl
    try simp (disch:=first|exact dq|fail) only [go_sem,↓reduceIte,q0,q1,q17,q18] at d0 d1 d7 d9 d17 d18 d19 d23 d24
    have hlt2:((i:Int)<(pl.length:Int))=True:=eq_true (by omega)
    have ai:=adrI (i:=(i:Int)) (by omega) iz (by omega)
    rw [Int.toNat_natCast] at ai
    have li:=loadI iz hi
    obtain ⟨p,ep⟩:∃ p,p=pl.getD i 0:=⟨_,rfl⟩
    rw [← ep] at li
    have skip:badAt o pl i=false→∀ i',i'<i+1→badAt o pl i'=false:=fun z i' hi'=>by
     by_cases e:i'=i
     ·rw [e];exact z
     ·exact hno i' (by omega)
    have hend:=fun z=>hfail (pilB_bad hi z)
    by_cases q1:0≤p∧p≤(o.length:Int)-1
    ·have t1:decide (0≤p∧p≤(o.length:Int)-1)=true:=decide_eq_true q1
     by_cases q2:0<i
     ·have t2:((i:Int) > 0)=True:=eq_true (by omega)
      have t3:((i:Int)-1)=((i-1:Nat):Int):=by omega
      have ai1:=adrI (i:=((i-1:Nat):Int)) (by omega) iz (by omega)
      rw [Int.toNat_natCast] at ai1
      have li1:=loadI iz (i:=i-1) (by omega)
      have hpr:=badAt_in (hno (i-1) (by omega))
      obtain ⟨p1,ep1⟩:∃ p1,p1=pl.getD (i-1) 0:=⟨_,rfl⟩
      rw [← ep1] at li1 hpr
      have hbad:badAt o pl i=(decide (p≤p1) || decide (o.getD p.toNat 0 ≥ o.getD p1.toNat 0)):=by
       unfold badAt
       rw [← ep,← ep1,t1,decide_eq_true q2];rfl
      have a1:=adrI (i:=p) (by omega) hIK (by omega)
      have l1:=loadI hIK (i:=p.toNat) (by omega)
      have a2:=adrI (i:=p1) (by omega) hIK (by omega)
      have l2:=loadI hIK (i:=p1.toNat) (by omega)
      by_cases q3:p≤p1
      ·have t4:(p≤p1)=True:=eq_true q3
       have hsp:=@Nat.succ_ne_zero;repeat' (first|simp (disch:=first|exact dq|fail) only [go_sem,↓reduceIte,hsp,r25,d0,d1,d7,d9,d17,d18,d19,d23,d24,q0,q1,q17,q18,hlt2,hloK,ai,li,t1,t2,t3,ai1,li1,t4]|refine WP_drw ?_|refine cnd_intro (fun hsp=>?_) fun hsp=>?_)
       rw [hend (by rw [hbad,decide_eq_true q3];rfl)]
       exact fII rfl rfl xK
      ·have t4:(p≤p1)=False:=eq_false q3
       by_cases q4:o.getD p.toNat 0 ≥ o.getD p1.toNat 0
       ·have t5:(o.getD p.toNat 0 ≥ o.getD p1.toNat 0)=True:=eq_true q4
        have hsp:=@Nat.succ_ne_zero;repeat' (first|simp (disch:=first|exact dq|fail) only [go_sem,↓reduceIte,hsp,r25,d0,d1,d7,d9,d17,d18,d19,d23,d24,q0,q1,q17,q18,hlt2,hloK,ai,li,t1,t2,t3,ai1,li1,t4,a1,l1,a2,l2,t5]|refine WP_drw ?_|refine cnd_intro (fun hsp=>?_) fun hsp=>?_)
        rw [hend (by rw [hbad,decide_eq_true q4,Bool.or_true])]
        exact fII rfl rfl xK
       ·have t5:(o.getD p.toNat 0 ≥ o.getD p1.toNat 0)=False:=eq_false q4
        have hsp:=@Nat.succ_ne_zero;repeat' (first|simp (disch:=first|exact dq|fail) only [go_sem,↓reduceIte,hsp,r25,d0,d1,d7,d9,d17,d18,d19,d23,d24,q0,q1,q17,q18,hlt2,hloK,ai,li,t1,t2,t3,ai1,li1,t4,a1,l1,a2,l2,t5]|refine WP_drw ?_|refine cnd_intro (fun hsp=>?_) fun hsp=>?_)
        exact ⟨agq,by omega,skip (by rw [hbad,decide_eq_false q3,decide_eq_false q4];rfl)⟩
     ·have t2:((i:Int) > 0)=False:=eq_false (by omega)
      have hsp:=@Nat.succ_ne_zero;repeat' (first|simp (disch:=first|exact dq|fail) only [go_sem,↓reduceIte,hsp,r25,d0,d1,d7,d9,d17,d18,d19,d23,d24,q0,q1,q17,q18,hlt2,hloK,ai,li,t1,t2]|refine WP_drw ?_|refine cnd_intro (fun hsp=>?_) fun hsp=>?_)
      exact ⟨agq,by omega,skip (by unfold badAt;rw [← ep,t1,decide_eq_false q2];rfl)⟩
    ·have t1:decide (0≤p∧p≤(o.length:Int)-1)=false:=decide_eq_false q1
     have hsp:=@Nat.succ_ne_zero;repeat' (first|simp (disch:=first|exact dq|fail) only [go_sem,↓reduceIte,hsp,r25,d0,d1,d7,d9,d17,d18,d19,d23,d24,q0,q1,q17,q18,hlt2,hloK,ai,li,t1]|refine WP_drw ?_|refine cnd_intro (fun hsp=>?_) fun hsp=>?_)
     rw [hend (by unfold badAt;rw [← ep,t1];rfl)]
     exact fII rfl rfl xK
   ·rintro fr2 K' hA2 ⟨r25,eK,hno⟩
    subst eK
    have d0:=hA2 0 rfl
    have d1:=hA2 1 rfl
    have d7:=hA2 7 rfl
    have d9:=hA2 9 rfl
    have d17:=hA2 17 rfl
    have d18:=hA2 18 rfl
    have d19:=hA2 19 rfl
    have d23:=hA2 23 rfl
    have d24:=hA2 24 rfl
    try simp (disch:=first|exact dq|fail) only [go_sem,↓reduceIte,q0,q1,q17,q18] at d0 d1 d7 d9 d17 d18 d19 d23 d24
    have hlt2:((pl.length:Int)<(pl.length:Int))=False:=eq_false (by omega)
    have d7:=hA2 7 rfl
    simp (disch:=first|exact dq|fail) only [go_sem,↓reduceIte,r7] at d7
    have d19:=hA2 19 rfl
    simp (disch:=first|exact dq|fail) only [go_sem,↓reduceIte,r19] at d19
    by_cases q1:pl=[]
    ·have t1:((pl.length:Int)=0)=True:=eq_true (by rw [q1];rfl)
     have hsp:=@Nat.succ_ne_zero;repeat' (first|simp (disch:=first|exact dq|fail) only [go_sem,↓reduceIte,hsp,r25,d7,d19,d0,d1,d7,d9,d17,d18,d19,d23,d24,q0,q1,q17,q18,hlt2,hlz,t1]|refine WP_drw ?_|refine cnd_intro (fun hsp=>?_) fun hsp=>?_)
     rw [hfail (by unfold pilB;rw [decide_eq_false (fun z=>z q1),Bool.false_and])]
     exact fII rfl rfl xK
    ·have hpos:0<pl.length:=by cases z:pl with|nil=>exact absurd z q1|cons a b=>simp
     have t1:((pl.length:Int)=0)=False:=eq_false (by omega)
     have hok:=pilB_ok q1 hno
     obtain ⟨w',K2,ea,oW,lW,eW,oneW,kW⟩:=hO.appendRX (P:=prog) (base:=h.length) (x:=z) (m:=pl) (t:=22) iz.rows Fc.el22 encI_sc (Nat.le_refl _) (by omega) hpos (by omega)
     have htk:ps.take (j+1)=ps.take j++[pl]:=by rw [List.take_add_one,hpj];rfl
     have hsp:=@Nat.succ_ne_zero;repeat' (first|simp (disch:=first|exact dq|fail) only [go_sem,↓reduceIte,hsp,r25,d7,d19,d0,d1,d7,d9,d17,d18,d19,d23,d24,q0,q1,q17,q18,hlt2,hlz,t1,ea]|refine WP_drw ?_|refine cnd_intro (fun hsp=>?_) fun hsp=>?_)
     refine ⟨agq,by omega,eW _ (Nat.le_refl _) xK,by rw [htk,List.all_append,hall];simp [hok],w',rfl,by rw [htk];simpa using oW,by rw [htk];simp at hfl ⊢;omega,?_⟩
     rw [htk]
     refine ⟨by simp at hfl ⊢;omega,fun x hx=>?_⟩
     simp only [List.flatten_append,List.flatten_cons,List.flatten_nil,List.append_nil] at hx
     rcases List.mem_append.1 hx with z|z
     ·exact hfs.2 x z
     ·exact hps.2 x z
  ·rintro fr K hA ⟨r19,xK,hall,w,r7,hO,hfl,hfs⟩
   have q0:=hA 0 rfl
   have q1:=hA 1 rfl
   have q17:=hA 17 rfl
   have q18:=hA 18 rfl
   try simp (disch:=first|exact dq|fail) only [go_sem,↓reduceIte] at q0 q1 q17 q18
   have hlt:((ps.length:Int)<(ps.length:Int))=False:=eq_false (by omega)
   rw [List.take_length] at hall hO hfl hfs
   have qq1:=hA 1 rfl
   simp (disch:=first|exact dq|fail) only [go_sem,↓reduceIte] at qq1
   have ow:=hO.one
   have iO:=own_ints hO hfs
   have hlO:=lenI iO
   have hloK:=lenI (hI.ext xK)
   have hlpK:=(hP.ext xK).len
   have htw:=run_twice (base:=h.length) iO
   have u1:¬ (ps.all (pilB o)=false):=by rw [hall];simp
   by_cases q1:ps.flatten.length=o.length
   ·have t1:((ps.flatten.length:Int)=(o.length:Int))=True:=eq_true (by omega)
    cases q2:twB ps.flatten with
    | true =>
     rw [q2] at htw
     have r:shwE o ps=(0,8):=by unfold shwE;rw [if_neg (by simp [c]),if_neg u1,if_pos (.inr q2)]
     have hsp:=@Nat.succ_ne_zero;repeat' (first|simp (disch:=first|exact dq|fail) only [go_sem,↓reduceIte,hsp,r19,r7,q0,q1,q17,q18,hlt,hlO,hloK,t1,htw]|refine WP_drw ?_|refine cnd_intro (fun hsp=>?_) fun hsp=>?_)
     rw [r]
     exact fII rfl rfl xK
    | false =>
     rw [q2] at htw
     have r:shwE o ps=((ps.length:Int),0):=by unfold shwE;rw [if_neg (by simp [c]),if_neg u1,if_neg (by rw [q2];simp [q1])]
     have hsp:=@Nat.succ_ne_zero;repeat' (first|simp (disch:=first|exact dq|fail) only [go_sem,↓reduceIte,hsp,r19,r7,qq1,q0,q1,q17,q18,hlt,hlO,hloK,t1,htw,hlpK]|refine WP_drw ?_|refine cnd_intro (fun hsp=>?_) fun hsp=>?_)
     rw [r]
     exact fII rfl rfl xK
   ·have t1:((ps.flatten.length:Int)=(o.length:Int))=False:=eq_false (by omega)
    have r:shwE o ps=(0,8):=by unfold shwE;rw [if_neg (by simp [c]),if_neg u1,if_pos (.inl q1)]
    have hsp:=@Nat.succ_ne_zero;repeat' (first|simp (disch:=first|exact dq|fail) only [go_sem,↓reduceIte,hsp,r19,r7,q0,q1,q17,q18,hlt,hlO,hloK,t1]|refine WP_drw ?_|refine cnd_intro (fun hsp=>?_) fun hsp=>?_)
    rw [r]
    exact fII rfl rfl xK
 ·have t1:(aloL o=0)=False:=eq_false c
  have r:shwE o ps=(0,aloL o):=by unfold shwE;rw [if_pos c]
  refine callL_run func38 rfl rfl ?_
  have hsp:=@Nat.succ_ne_zero;repeat' (first|simp (disch:=first|exact dq|fail) only [go_sem,↓reduceIte,hsp,ha,t1]|refine WP_drw ?_|refine cnd_intro (fun hsp=>?_) fun hsp=>?_)
  rw [r]
  exact fII rfl rfl .refl
end Go.AM
