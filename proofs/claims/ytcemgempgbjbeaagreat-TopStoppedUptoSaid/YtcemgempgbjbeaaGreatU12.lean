/-
  Contracts: short lists of integers are sorted in place (slices.Sort, at most 12 elements).
-/
import Derived.Test.YtcemgempgbjbeaaGreatU11
set_option linter.unusedSimpArgs false
set_option linter.unusedVariables false
namespace Go.AM
open Go.Proofs.Tryz
attribute [-go_sem] put_ne put_same
attribute [local go_sem ↓] put_if
theorem ev_str {fr:AFrame} {s:ByteArray}:ev fr (.const (.string s))=.str s:=rfl
theorem ix_str {t:TypeId} {s:ByteArray} {k:IntKind} {n:Nat} (ha:arT prog t=none) (hs:strT prog t=true):indexA prog t (.str s) (.int k (n:Int))=(s[n]?).map fun b=>.int .u8 b.toNat:=by
 unfold indexA
 rw [ha]
 simp only [hs,true_and]
 rw [if_pos (by omega),Int.toNat_natCast]
def lenT (n:Nat):Nat:=[0,1,2,2,3,3,3,3,4,4,4,4,4].getD n 0
theorem lenT_lt {n:Nat}:lenT n≤4:=by
 by_cases h:n<13
 ·have:∀ n:Fin 13,lenT n≤4:=by decide
  exact this ⟨n,h⟩
 ·unfold lenT
  rw [List.getD_eq_getElem?_getD,List.getElem?_eq_none (by simp;omega)];decide
theorem len_key {k n:Nat} {s:ByteArray} {K:AVal→Prop} (h:s[n]?=some (UInt8.ofNat k)) (hk:k≤4) (hK:K (.int .u8 (k:Int))):bindv ((s[n]?).map fun b=>AVal.int .u8 (b.toNat:Int)) K:=by
 rw [h]
 simp only [Option.map_some,bindv_some]
 have:(UInt8.ofNat k).toNat=k:=by rw [UInt8.toNat_ofNat'];exact Nat.mod_eq_of_lt (by omega)
 rw [this]
 exact hK
theorem run_len64 {base n:Nat} {h:Heap} (hn:n≤12):callL prog raw base (.fn 239 [] []) [.int .u64 (n:Int)] h=some (.int .i64 (lenT n:Int),h):=by
 have t1:((n:Int) ≥ 4294967296)=False:=eq_false (by omega)
 have t2:((n:Int) ≥ 65536)=False:=eq_false (by omega)
 have t3:((n:Int) ≥ 256)=False:=eq_false (by omega)
 have c1:convA prog 5 134 (.int .u64 (n:Int))=some (.int .u8 (n:Int)):=by
  simp only [convA,underlying134,Fc.ik5]
  have e:(n:Int) % 2 ^ 8=n:=Int.emod_eq_of_lt (by omega) (by omega)
  simp only [IntKind.wrap,IntKind.signed,IntKind.bits,Bool.false_eq_true,Bool.false_and,if_false,e]
 have c2:∀ k:Nat,k≤4→convA prog 3 5 (.int .u8 (k:Int))=some (.int .i64 (k:Int)):=fun k hk=>by
  simp only [convA,underlying5,Fc.ik3]
  rw [wrap64 (by omega) (by omega)]
 have hl:=lenT_lt (n:=n)
 have c3:=c2 (lenT n) hl
 have ix:=fun (s:ByteArray) (k:IntKind)=>ix_str (t:=9) (s:=s) (k:=k) (n:=n) Fc.ar9 (by kernel_rfl)
 refine callL_run func239 rfl rfl ?_
 have hsp:=@Nat.succ_ne_zero;repeat' (first|simp (disch:=first|exact dq|fail) only [go_sem,↓reduceIte,hsp,t1,t2,t3,c1,ev_str,ix]|refine WP_drw ?_|refine cnd_intro (fun hsp=>?_) fun hsp=>?_)
 refine len_key (k:=lenT n) ?_ hl ?_
 ·rcases (by omega:n=0 ∨ n=1 ∨ n=2 ∨ n=3 ∨ n=4 ∨ n=5 ∨ n=6 ∨ n=7 ∨ n=8 ∨ n=9 ∨ n=10 ∨ n=11 ∨ n=12) with e|e|e|e|e|e|e|e|e|e|e|e|e<;>subst e<;>kernel_rfl
 ·have hsp:=@Nat.succ_ne_zero;repeat' (first|simp (disch:=first|exact dq|fail) only [go_sem,↓reduceIte,hsp,c3]|refine WP_drw ?_|refine cnd_intro (fun hsp=>?_) fun hsp=>?_)
  exact fI (by omega)
theorem run_len {base n:Nat} {h:Heap} (hn:n≤12):callL prog raw base (.fn 178 [] []) [.int .u64 (n:Int)] h=some (.int .i64 (lenT n:Int),h):=by
 have e:=fun base=>run_len64 (base:=base) (h:=h) hn
 refine callL_run func178 rfl rfl ?_
 have hsp:=@Nat.succ_ne_zero;repeat' (first|simp (disch:=first|exact dq|fail) only [go_sem,↓reduceIte,hsp,e]|refine WP_drw ?_|refine cnd_intro (fun hsp=>?_) fun hsp=>?_)
 exact fI rfl
def Srt (m:List Int) (i j:Nat):Prop:=∀ a b,a<b→b≤i→b ≠ j→m.getD a 0≤m.getD b 0
def swp (m:List Int) (j:Nat):List Int:=(m.set (j+1) (m.getD j 0)).set j (m.getD (j+1) 0)
theorem getD_setI {l:List Int} {i j:Nat} {b:Int} (hi:i<l.length):(l.set i b).getD j 0=if i=j then b else l.getD j 0:=by
 rw [List.getD_eq_getElem?_getD,List.getElem?_set,List.getD_eq_getElem?_getD]
 by_cases e:i=j
 ·subst e;simp [hi]
 ·simp [e]
theorem Srt.done {m:List Int} {i j:Nat} (h:Srt m i j) (hj:j=0 ∨ m.getD (j-1) 0≤m.getD j 0) (hi:j≤i):∀ a b,a<b→b≤i→m.getD a 0≤m.getD b 0:=fun a b hab hb=>by
 by_cases e:b=j
 ·subst e
  rcases hj with hj|hj
  ·omega
  ·by_cases e2:a=b-1
   ·rw [e2];exact hj
   ·exact Int.le_trans (h a (b-1) (by omega) (by omega) (by omega)) hj
 ·exact h a b hab hb e
abbrev srB (m:List Int) (e:TypeId) (ver:Nat):ABlk:=⟨.cells (ints m) e true false,ver⟩
def srtL (l:List Int):List Int:=l.mergeSort fun a b=>decide (a≤b)
theorem srtL_perm {l:List Int}:(srtL l).Perm l:=List.mergeSort_perm ..
theorem srtL_sorted {l:List Int}:(srtL l).Pairwise (·≤·):=by
 have:=List.pairwise_mergeSort (le:=fun a b:Int=>decide (a≤b)) (fun a b c h1 h2=>by simp only [decide_eq_true_eq] at *;omega) (fun a b=>by simp only [Bool.or_eq_true,decide_eq_true_eq];omega) l
 exact this.imp fun h=>of_decide_eq_true h
theorem srtL_len {l:List Int}:(srtL l).length=l.length:=srtL_perm.length_eq
theorem run_insertion0 {base:Nat} {h:Heap}:callL prog raw base (.fn 229 [] []) [.slice none 0 0,.int .i64 0,.int .i64 0] h=some (.tuple [],h):=by
 have hend:compact h.length (.tuple []) h=some (.tuple [],h):=compact_plain' rfl
 have hlt:((0:Int)+1<0)=False:=eq_false (by omega)
 have hlt2:((1:Int)<0)=False:=eq_false (by omega)
 refine callL_run func229 rfl rfl ?_
 have hsp:=@Nat.succ_ne_zero;repeat' (first|simp (disch:=first|exact dq|fail) only [go_sem,↓reduceIte,hsp]|refine WP_drw ?_|refine cnd_intro (fun hsp=>?_) fun hsp=>?_)
 rw [WP_loop1]
 have hsp:=@Nat.succ_ne_zero;repeat' (first|simp (disch:=first|exact dq|fail) only [go_sem,↓reduceIte,hsp,hlt,hlt2]|refine WP_drw ?_|refine cnd_intro (fun hsp=>?_) fun hsp=>?_)
 exact hend
theorem run_pdq0 {base k:Nat} {h:Heap}:callL prog raw base (.fn 177 [] []) [.slice none 0 0,.int .i64 0,.int .i64 0,.int .i64 (k:Int)] h=some (.tuple [],h):=by
 have hend:compact h.length (.tuple []) h=some (.tuple [],h):=compact_plain' rfl
 have hlt:((0:Int)-0≤12)=True:=eq_true (by omega)
 have hlt2:((0:Int)≤12)=True:=eq_true (by omega)
 have hi:=fun base=>run_insertion0 (base:=base) (h:=h)
 refine callL_run func177 rfl rfl ?_
 have hsp:=@Nat.succ_ne_zero;repeat' (first|simp (disch:=first|exact dq|fail) only [go_sem,↓reduceIte,hsp]|refine WP_drw ?_|refine cnd_intro (fun hsp=>?_) fun hsp=>?_)
 rw [WP_loop1]
 have hsp:=@Nat.succ_ne_zero;repeat' (first|simp (disch:=first|exact dq|fail) only [go_sem,↓reduceIte,hsp,hlt,hlt2,hi,Int.sub_zero]|refine WP_drw ?_|refine cnd_intro (fun hsp=>?_) fun hsp=>?_)
 exact hend
theorem run_sort0 {base:Nat} {h:Heap}:callL prog raw base (.fn 92 [] []) [.slice none 0 0] h=some (.tuple [],h):=by
 have hend:compact h.length (.tuple []) h=some (.tuple [],h):=compact_plain' rfl
 have c1:convA prog 278 3 (.int .i64 0)=some (.int .u64 0):=by
  simp only [convA,underlying3,Fc.ik278,wrapU]
  rfl
 have hl0:lenOpA prog h 35 (.slice none 0 0)=some (.int .i64 0):=by simp [lenOpA,Fc.el35,lenA]
 have e1:=fun base=>run_len (base:=base) (h:=h) (n:=0) (by omega)
 rw [show (((0:Nat):Int))=0 from rfl] at e1
 have e2:=fun base=>run_pdq0 (base:=base) (h:=h) (k:=lenT 0)
 have hq:(insQ f92 [.slice none 0 0] || srtQ f92 [.slice none 0 0])=false:=by
  rw [Bool.or_eq_false_iff]
  exact ⟨by unfold insQ;simp,by unfold srtQ;simp⟩
 refine callL_runQ func92 rfl rfl ?_ hq
 have hsp:=@Nat.succ_ne_zero;repeat' (first|simp (disch:=first|exact dq|fail) only [go_sem,↓reduceIte,hsp,hl0,c1,e1,e2]|refine WP_drw ?_|refine cnd_intro (fun hsp=>?_) fun hsp=>?_)
 exact hend
end Go.AM
namespace Go.AM
structure Wnt where
 lg:Int
 pr:Int
 off:Int
 fl:Int
 jn:Int
structure Rib where
 L:Int
 F:List Int
 W:List Wnt
structure Ct where
 w:Int
 f:Int
 j:Bool
def wntB (w:Wnt):Bool:=decide (1≤w.lg∧w.lg≤60) && decide (0≤w.pr∧w.pr≤100) && decide (0≤w.off∧w.off≤20) && decide (0≤w.fl∧w.fl≤4) && decide (0≤w.jn∧w.jn≤4)
def chkR (R:Rib):Int :=
 if ¬ (1≤R.L∧R.L≤60) ∨ (R.F.length:Int) > 12 ∨ (R.W.length:Int) > 6 then 2 else
 if ¬ R.W.all wntB=true then 3 else
 if ¬ (R.F.all fun x=>decide (0≤x∧x≤R.L-1))=true then 1 else
 if ¬ R.F.Pairwise (·<·) then 4 else 0
structure WntOk (w:Wnt):Prop where
 lg:1≤w.lg∧w.lg≤60
 pr:0≤w.pr∧w.pr≤100
 off:0≤w.off∧w.off≤20
 fl:0≤w.fl∧w.fl≤4
 jn:0≤w.jn∧w.jn≤4
theorem wntB_iff {w:Wnt}:wntB w=true ↔ WntOk w:=by
 unfold wntB
 simp only [Bool.and_eq_true,decide_eq_true_eq]
 exact ⟨fun ⟨⟨⟨⟨a,b⟩,c⟩,d⟩,e⟩=>⟨a,b,c,d,e⟩,fun ⟨a,b,c,d,e⟩=>⟨⟨⟨⟨a,b⟩,c⟩,d⟩,e⟩⟩
structure RibOk (R:Rib):Prop where
 L:1≤R.L∧R.L≤60
 nF:R.F.length≤12
 nW:R.W.length≤6
 W:∀ w ∈ R.W,WntOk w
 F:∀ x ∈ R.F,0≤x∧x≤R.L-1
 s:R.F.Pairwise (·<·)
theorem chkR_iff {R:Rib}:chkR R=0 ↔ RibOk R:=by
 unfold chkR
 constructor
 ·intro h
  split at h
  ·omega
  ·rename_i h1
   split at h
   ·omega
   ·rename_i h2
    split at h
    ·omega
    ·rename_i h3
     split at h
     ·omega
     ·rename_i h4
      simp only [not_or,Classical.not_not] at h1 h2 h3 h4
      simp only [List.all_eq_true,decide_eq_true_eq] at h2 h3
      exact ⟨h1.1,by omega,by omega,fun w hw=>wntB_iff.1 (h2 w hw),h3,h4⟩
 ·intro h
  rw [if_neg (by have:=h.L;have:=h.nF;have:=h.nW;omega),if_neg (fun q=>q (List.all_eq_true.2 fun w hw=>wntB_iff.2 (h.W w hw))),if_neg (fun q=>q (List.all_eq_true.2 fun x hx=>decide_eq_true (h.F x hx))),if_neg (fun q=>q h.s)]
def badF (R:Rib) (u:Nat):Bool:=decide ((u:Int) ∈ R.F)
def gapB (o:List Int) (u:Nat):Bool:=decide (0<o.length) && decide (o.getD (o.length-1) 0<(u:Int)-1)
def unS (bad:Nat→Bool) (j:Bool) (u:Nat) (o:List Int) (f:Int):List Int × Int :=
 if (j && bad u)=true then (o,f) else (o++[(u:Int)],if (j && gapB o u || bad u)=true then f+1 else f)
def unL (bad:Nat→Bool) (j:Bool) (lg:Int):Nat→Nat→List Int→Int→List Int × Int
 | 0,_,o,f=>(o,f)
 | n+1,u,o,f=>if (o.length:Int)<lg then unL bad j lg n (u+1) (unS bad j u o f).1 (unS bad j u o f).2 else (o,f)
def uniP (R:Rib) (w:Wnt) (x:Nat) (j:Bool):List Int × Int:=unL (badF R) j w.lg (R.L.toNat-x) x [] 0
def limW (w:Wnt) (j:Bool):Int:=if j=true then w.jn else w.fl
def okT (R:Rib) (w:Wnt) (x:Nat) (j:Bool):Bool:=!(j && badF R x) && decide (((uniP R w x j).1.length:Int)=w.lg)
def takL (R:Rib) (w:Wnt) (x:Nat) (j:Bool):Option (Int × Int) :=
 if okT R w x j=true∧(uniP R w x j).2≤limW w j then some ((uniP R w x j).1.getD ((uniP R w x j).1.length-1) 0+1,max 0 (w.pr-w.off * (uniP R w x j).2)) else none
def cutO (R:Rib) (x i:Nat):Option (Ct × Int × Int):=match R.W[i / 2]? with
 | none=>none
 | some w=>(takL R w x (decide (i % 2=1))).map fun e=>(⟨((i / 2:Nat):Int),(x:Int),decide (i % 2=1)⟩,e)
def cutM (R:Rib) (x m:Nat):List (Ct × Int × Int):=(List.range m).filterMap (cutO R x)
def cutL (R:Rib) (x:Nat):List (Ct × Int × Int):=cutM R x (2 * R.W.length)
def valS (R:Rib) (x:Nat) (t:List Int):Int:=(cutL R x).foldl (fun a c=>max a (c.2.2+t.getD (c.2.1-((x:Int)+1)).toNat 0)) (t.getD 0 0)
def valL (R:Rib):Nat→List Int
 | 0=>[0]
 | n+1=>valS R (R.L.toNat-(n+1)) (valL R n) :: valL R n
def valD (R:Rib) (x:Nat):Int:=(valL R (R.L.toNat-x)).getD 0 0
section
variable {bad:Nat→Bool} {j:Bool} {lg:Int}
theorem unL_inv {I:Nat→List Int→Int→Prop} (step:∀ u o f,I u o f→(o.length:Int)<lg→I (u+1) (unS bad j u o f).1 (unS bad j u o f).2) :
  ∀ (n u:Nat) (o:List Int) (f:Int),I u o f→∃ u',u≤u'∧u'≤u+n∧I u' (unL bad j lg n u o f).1 (unL bad j lg n u o f).2∧(((unL bad j lg n u o f).1.length:Int)<lg→u'=u+n)
 | 0,u,o,f,h=>⟨u,Nat.le_refl _,Nat.le_refl _,h,fun _=>rfl⟩
 | n+1,u,o,f,h=>by
  unfold unL
  by_cases c:(o.length:Int)<lg
  ·rw [if_pos c]
   obtain ⟨u',h1,h2,h3,h4⟩:=unL_inv step n (u+1) _ _ (step u o f h c)
   exact ⟨u',by omega,by omega,h3,fun q=>by have:=h4 q;omega⟩
  ·rw [if_neg c]
   exact ⟨u,Nat.le_refl _,by omega,h,fun q=>absurd q c⟩
structure UnK (x lim:Nat) (lg:Int) (u:Nat) (o:List Int) (f:Int):Prop where
 p:o.Pairwise (·<·)
 b:∀ y ∈ o,(x:Int)≤y∧y<(u:Int)
 n:o.length+x≤u
 g:(o.length:Int)≤max lg 0
 f:0≤f∧f≤o.length
theorem UnK.start {x lim:Nat}:UnK x lim lg x [] 0:=⟨by simp,by simp,by simp,by simp;omega,by simp⟩
theorem UnK.step {x lim u:Nat} {o:List Int} {f:Int} (h:UnK x lim lg u o f) (hl:(o.length:Int)<lg):UnK x lim lg (u+1) (unS bad j u o f).1 (unS bad j u o f).2:=by
 obtain ⟨hp,hb,hn,hg,hf⟩:=h
 unfold unS
 split
 ·exact ⟨hp,fun y hy=>by have:=hb y hy;omega,by simp only;omega,hg,hf⟩
 ·refine ⟨?_,fun y hy=>?_,?_,?_,?_⟩
  ·rw [List.pairwise_append]
   refine ⟨hp,by simp,fun a ha b hb2=>?_⟩
   have:=hb a ha
   simp at hb2;omega
  ·rcases List.mem_append.1 hy with q|q
   ·have:=hb y q;omega
   ·simp at q;omega
  ·simp only [List.length_append,List.length_cons,List.length_nil];omega
  ·simp only [List.length_append,List.length_cons,List.length_nil];omega
  ·simp only [List.length_append,List.length_cons,List.length_nil];split<;>omega
end
section
variable {R:Rib} {w:Wnt} {x:Nat} {j:Bool}
theorem uniP_k (hR:RibOk R) (hx:x<R.L.toNat):∃ u,x≤u∧u≤R.L.toNat∧UnK x 0 w.lg u (uniP R w x j).1 (uniP R w x j).2∧(((uniP R w x j).1.length:Int)<w.lg→u=R.L.toNat):=by
 obtain ⟨u,h1,h2,h3,h4⟩:=unL_inv (bad:=badF R) (j:=j) (lg:=w.lg) (I:=UnK x 0 w.lg) (fun u o f h hl=>h.step hl) (R.L.toNat-x) x [] 0 UnK.start
 exact ⟨u,h1,by omega,h3,fun q=>by have:=h4 q;omega⟩
theorem takL_b (hR:RibOk R) (hw:WntOk w) (hx:x<R.L.toNat) {e p:Int} (h:takL R w x j=some (e,p)):(x:Int)<e∧e≤R.L∧0≤p∧p≤100∧p≤w.pr:=by
 unfold takL at h
 split at h
 ·rename_i c
  obtain ⟨u,h1,h2,hk,_⟩:=uniP_k (w:=w) (j:=j) hR hx
  simp only [Option.some.injEq,Prod.mk.injEq] at h
  obtain ⟨rfl,rfl⟩:=h
  have hl:=c.1
  unfold okT at hl
  rw [Bool.and_eq_true,decide_eq_true_eq] at hl
  have h0:=hw.lg
  have hlen:(uniP R w x j).1.length-1<(uniP R w x j).1.length:=by omega
  have hm:=getD_mem' (d:=0) hlen
  have hb:=hk.b _ hm
  have hL:=hR.L
  have h3:=hw.pr
  have h4:=hw.off
  have h5:=hk.f
  have:0≤w.off * (uniP R w x j).2:=Int.mul_nonneg h4.1 h5.1
  omega
 ·cases h
theorem cutO_b (hR:RibOk R) (hx:x<R.L.toNat) {i:Nat} {c:Ct × Int × Int} (h:cutO R x i=some c):((x:Int)<c.2.1∧c.2.1≤R.L∧0≤c.2.2∧c.2.2≤100)∧c.1.f=(x:Int)∧0≤c.1.w∧c.1.w<R.W.length∧∃ w,R.W[c.1.w.toNat]?=some w∧takL R w x c.1.j=some c.2:=by
 unfold cutO at h
 split at h
 ·cases h
 ·rename_i w hw
  have hwl:=(List.getElem?_eq_some_iff.1 hw).1
  cases ht:takL R w x (decide (i % 2=1)) with
  | none=>rw [ht] at h;cases h
  | some e =>
   rw [ht] at h
   simp only [Option.map_some,Option.some.injEq] at h
   subst h
   obtain ⟨e,p⟩:=e
   have hb:=takL_b hR (hR.W w (List.mem_of_getElem? hw)) hx ht
   refine ⟨⟨hb.1,hb.2.1,hb.2.2.1,hb.2.2.2.1⟩,rfl,by simp only;omega,by simp only;omega,w,?_,ht⟩
   simp only [Int.toNat_natCast];exact hw
theorem cutL_b (hR:RibOk R) (hx:x<R.L.toNat) {c:Ct × Int × Int} (h:c ∈ cutL R x):((x:Int)<c.2.1∧c.2.1≤R.L∧0≤c.2.2∧c.2.2≤100)∧c.1.f=(x:Int)∧0≤c.1.w∧c.1.w<R.W.length∧∃ w,R.W[c.1.w.toNat]?=some w∧takL R w x c.1.j=some c.2:=by
 unfold cutL cutM at h
 obtain ⟨i,_,hi⟩:=List.mem_filterMap.1 h
 exact cutO_b hR hx hi
def mx1 (R:Rib) (a:Int) (c:Ct × Int × Int):Int:=max a (c.2.2+valD R c.2.1.toNat)
end
section
variable {α:Type} {g:α→Int}
end
section
variable {R:Rib} {x:Nat}
end
end Go.AM
namespace Go.AM
structure Back (R:Rib) (ω:Int→Int) (V:Nat→Int):Prop where
 fin:V R.L.toNat=0
 up:∀ x,x<R.L.toNat→V (x+1)≤V x
 cut:∀ x,x<R.L.toNat→∀ c ∈ cutL R x,ω c.2.2+V c.2.1.toNat≤V x
 is:∀ x,x<R.L.toNat→V x=V (x+1) ∨ ∃ c ∈ cutL R x,V x=ω c.2.2+V c.2.1.toNat
section
variable {R:Rib} {ω:Int→Int} {V U:Nat→Int}
theorem Back.le (hR:RibOk R) (a:Back R ω V) (b:Back R ω U):∀ (n x:Nat),R.L.toNat=x+n→V x≤U x:=by
 intro n
 induction n using Nat.strongRecOn with
 | _ n ih =>
  intro x h
  by_cases hn:n=0
  ·rw [show x=R.L.toNat by omega,a.fin,b.fin];exact Int.le_refl _
  ·have hx:x<R.L.toNat:=by omega
   rcases a.is x hx with q|⟨c,hc,q⟩
   ·have:=ih (n-1) (by omega) (x+1) (by omega)
    have:=b.up x hx;omega
   ·have hb:=(cutL_b hR hx hc).1
    have:=ih (R.L.toNat-c.2.1.toNat) (by omega) c.2.1.toNat (by omega)
    have:=b.cut x hx c hc
    omega
theorem Back.eq (hR:RibOk R) (a:Back R ω V) (b:Back R ω U) {x:Nat} (hx:x≤R.L.toNat):V x=U x :=
 Int.le_antisymm (a.le hR b (R.L.toNat-x) x (by omega)) (b.le hR a (R.L.toNat-x) x (by omega))
def rlx (K:Nat→Int) (y:Nat) (a:Int):Nat→Int:=fun i=>if i=y then max (K y) a else K i
def fwX (R:Rib) (ω:Int→Int) (x:Nat) (K:Nat→Int):Nat→Int:=(cutL R x).foldl (fun K' c=>rlx K' c.2.1.toNat (K x+ω c.2.2)) (rlx K (x+1) (K x))
def fwN (R:Rib) (ω:Int→Int):Nat→Nat→(Nat→Int)→(Nat→Int)
 | 0,_,K=>K
 | n+1,x,K=>fwN R ω n (x+1) (fwX R ω x K)
theorem rlx_ne {K:Nat→Int} {y i:Nat} {a:Int} (h:i ≠ y):rlx K y a i=K i:=by simp [rlx,h]
theorem rlx_eq {K:Nat→Int} {y:Nat} {a:Int}:rlx K y a y=max (K y) a:=by simp [rlx]
theorem rlx_ge {K:Nat→Int} {y i:Nat} {a:Int}:K i≤rlx K y a i:=by
 unfold rlx;split
 ·rename_i h;subst h;omega
 ·exact Int.le_refl _
theorem foldl_inv {α β:Type} {f:β→α→β} {I:β→Prop}:∀ {l:List α} {b:β},I b→(∀ b,∀ x ∈ l,I b→I (f b x))→I (l.foldl f b)
 | [],_,h,_=>h
 | x :: l,b,h,hs=>by
  rw [List.foldl_cons]
  exact foldl_inv (hs b x (by simp) h) fun b y hy=>hs b y (by simp [hy])
structure Fw (R:Rib) (V:Nat→Int) (f x:Nat) (K:Nat→Int):Prop where
 le:∀ y,x≤y→y≤R.L.toNat→K y+V y≤V f
 is:∃ y,x≤y∧y≤R.L.toNat∧K y+V y=V f
theorem Fw.step (hR:RibOk R) (a:Back R ω V) {f x:Nat} {K:Nat→Int} (hx:x<R.L.toNat) (h:Fw R V f x K):Fw R V f (x+1) (fwX R ω x K):=by
 have hle:∀ y,x≤y→y≤R.L.toNat→fwX R ω x K y+V y≤V f:=by
  unfold fwX
  refine (foldl_inv (I:=fun K':Nat→Int=>K' x=K x∧∀ y,x≤y→y≤R.L.toNat→K' y+V y≤V f) ⟨rlx_ne (by omega),fun y h1 h2=>?_⟩ fun b c hc hI=>?_).2
  ·by_cases e:y=x+1
   ·subst e
    rw [rlx_eq]
    have:=h.le (x+1) h1 h2
    have:=h.le x (Nat.le_refl _) (by omega)
    have:=a.up x hx
    omega
   ·rw [rlx_ne e];exact h.le y h1 h2
  ·have hb:=(cutL_b hR hx hc).1
   refine ⟨by rw [rlx_ne (by omega)];exact hI.1,fun y h1 h2=>?_⟩
   by_cases e:y=c.2.1.toNat
   ·rw [e,rlx_eq]
    have:=hI.2 y h1 h2
    rw [e] at this
    have:=h.le x (Nat.le_refl _) (by omega)
    have:=a.cut x hx c hc
    omega
   ·rw [rlx_ne e];exact hI.2 y h1 h2
 refine ⟨fun y h1 h2=>hle y (by omega) h2,?_⟩
 have hge:∀ y,K y≤fwX R ω x K y:=fun y=>by
  unfold fwX
  refine foldl_inv (I:=fun K':Nat→Int=>K y≤K' y) rlx_ge fun b c hc hI=>?_
  exact Int.le_trans hI rlx_ge
 obtain ⟨y,h1,h2,h3⟩:=h.is
 by_cases e:y=x
 ·subst e
  rcases a.is y hx with q|⟨c,hc,q⟩
  ·refine ⟨y+1,by omega,by omega,Int.le_antisymm (hle _ (by omega) (by omega)) ?_⟩
   have:K y≤fwX R ω y K (y+1):=by
    unfold fwX
    refine foldl_inv (I:=fun K':Nat→Int=>K y≤K' (y+1)) (by rw [rlx_eq];omega) fun b c hc hI=>?_
    exact Int.le_trans hI rlx_ge
   omega
  ·have hb:=(cutL_b hR hx hc).1
   refine ⟨c.2.1.toNat,by omega,by omega,Int.le_antisymm (hle _ (by omega) (by omega)) ?_⟩
   have:K y+ω c.2.2≤fwX R ω y K c.2.1.toNat:=by
    unfold fwX
    obtain ⟨l1,l2,hl⟩:=List.append_of_mem hc
    rw [hl,List.foldl_append,List.foldl_cons]
    refine foldl_inv (I:=fun K':Nat→Int=>K y+ω c.2.2≤K' c.2.1.toNat) ?_ fun b c hc hI=>Int.le_trans hI rlx_ge
    rw [rlx_eq];omega
   omega
 ·exact ⟨y,by omega,h2,Int.le_antisymm (hle _ (by omega) h2) (by have:=hge y;omega)⟩
theorem Fw.run (hR:RibOk R) (a:Back R ω V) {f:Nat}:∀ {n x:Nat} {K:Nat→Int},x+n=R.L.toNat→Fw R V f x K→Fw R V f R.L.toNat (fwN R ω n x K)
 | 0,x,K,h,hF=>by rw [← h];exact hF
 | n+1,x,K,h,hF=>Fw.run hR a (n:=n) (x:=x+1) (K:=fwX R ω x K) (by omega) (hF.step hR a (by omega))
end
structure Fol where
 e:Int
 c:Int
 nx:Ct
 to:Nat
def noC:Ct:=⟨-1,0,false⟩
def thB (b:Bool) (n m:Int × Int):Bool:=decide (n.1 > m.1) || (b && (decide (n.1=m.1) && decide (n.2<m.2)))
def folF (b:Bool) (t:Nat→Fol) (s:Fol) (c:Ct × Int × Int):Fol:=if thB b ((t c.2.1.toNat).e+c.2.2,(t c.2.1.toNat).c+1) (s.e,s.c)=true then ⟨(t c.2.1.toNat).e+c.2.2,(t c.2.1.toNat).c+1,c.1,c.2.1.toNat⟩ else s
def fol0:Fol:=⟨0,0,noC,0⟩
def folL (b:Bool) (R:Rib):Nat→List Fol
 | 0=>[fol0]
 | n+1=>(cutL R (R.L.toNat-(n+1))).foldl (folF b fun y=>(folL b R n).getD (y-(R.L.toNat-n)) fol0) ⟨((folL b R n).getD 0 fol0).e,((folL b R n).getD 0 fol0).c,noC,R.L.toNat-n⟩ :: folL b R n
def folD (b:Bool) (R:Rib) (x:Nat):Fol:=(folL b R (R.L.toNat-x)).getD 0 fol0
def pthL (b:Bool) (R:Rib):Nat→Nat→List Ct
 | 0,_=>[]
 | n+1,x=>if x=R.L.toNat then [] else (if (folD b R x).nx.w=-1 then [] else [(folD b R x).nx])++pthL b R n (folD b R x).to
def takC (R:Rib) (c:Ct):Option (Int × Int):=match R.W[c.w.toNat]? with
 | none=>none
 | some w=>takL R w c.f.toNat c.j
def plnL (R:Rib):List Ct→Int→Int→Int × Int
 | [],_,s=>(s,0)
 | c :: l,at_,s=>if ¬ ((0≤c.w∧c.w≤(R.W.length:Int)-1)∧(0≤c.f∧c.f≤R.L-1)) then (0,1) else match takC R c with
  | none=>(0,8)
  | some e=>if c.f<at_ then (0,4) else plnL R l e.1 (s+e.2)
section
variable {R:Rib} {b:Bool} {x:Nat}
def key (b:Bool) (n:Int × Int):Int:=if b=true then 1000 * n.1-n.2 else n.1
def omg (b:Bool) (p:Int):Int:=if b=true then 1000 * p-1 else p
end
end Go.AM
namespace Go.AM
def cntB (bad:Nat→Bool):Nat→Nat→Int
 | _,0=>0
 | u,m+1=>(if bad u=true then 1 else 0)+cntB bad (u+1) m
def rngI (u:Nat):Nat→List Int
 | 0=>[]
 | m+1=>(u:Int) :: rngI (u+1) m
section
variable {R:Rib} {w:Wnt} {x:Nat}
end
def inRg (x m:Nat) (y:Int):Bool:=decide ((x:Int)≤y∧y<((x+m:Nat):Int))
theorem RibOk.nodup {R:Rib} (hR:RibOk R):R.F.Nodup:=hR.s.imp fun h=>by omega
section
variable {R:Rib} {ω:Int→Int} {V:Nat→Int}
def wgh (R:Rib) (ω:Int→Int):List Ct→Int
 | []=>0
 | c :: l=>ω (((takC R c).getD (0,0)).2)+wgh R ω l
end
end Go.AM
namespace Go.AM
def rlxL (K:List Int) (y:Nat) (a:Int):List Int:=K.set y (max (K.getD y 0) a)
def bfX (R:Rib) (x:Nat) (K:List Int):List Int:=(cutL R x).foldl (fun K' c=>rlxL K' c.2.1.toNat (K.getD x 0+c.2.2)) (rlxL K (x+1) (K.getD x 0))
def bfN (R:Rib):Nat→List Int
 | 0=>List.replicate 61 0
 | n+1=>bfX R n (bfN R n)
def useB (R:Rib) (a:Int) (c:Ct × Int × Int):Bool:=decide (a+c.2.2+valD R c.2.1.toNat=valD R 0)
def usF (R:Rib) (a:Int) (o:List Int) (c:Ct × Int × Int):List Int:=if useB R a c=true then (if c.1.w ∈ o then o else o++[c.1.w]) else o
def usN (R:Rib):Nat→List Int
 | 0=>[]
 | n+1=>(cutL R n).foldl (usF R ((bfN R n).getD n 0)) (usN R n)
def usdL (R:Rib):List Int:=(upto R.W.length).filter fun k=>decide (k ∈ usN R R.L.toNat)
def witR (R:Rib) (k:Nat):Rib:=⟨R.L,R.F,R.W.eraseIdx k⟩
def nedL (R:Rib):List Int:=(upto R.W.length).filter fun k=>decide (valD (witR R k.toNat) 0<valD R 0)
def prcR (R:Rib) (k:Nat) (p:Int):Rib:=⟨R.L,R.F,R.W.modify k fun w=>{ w with pr:=p }⟩
def rseN (R:Rib) (k:Nat):Nat→Int→Option Int
 | 0,_=>none
 | n+1,p=>if (k:Int) ∈ usdL (prcR R k p) then some p else rseN R k n (p+1)
def prcW (R:Rib) (k:Nat):Int:=match R.W[k]? with|some w=>w.pr|none=>0
def rseL (R:Rib) (k:Nat):Option Int:=rseN R k (101-prcW R k).toNat (prcW R k)
def lowL (F:List Int) (u:Int):List Int:=F.takeWhile fun y=>decide (y<u)
def insL (F:List Int) (u:Int):List Int:=lowL F u++u :: F.drop (lowL F u).length
def addR (R:Rib) (u:Int):Rib:=⟨R.L,insL R.F u,R.W⟩
def delR (R:Rib) (u:Int):Rib:=⟨R.L,R.F.eraseIdx (lowL R.F u).length,R.W⟩
def dmgL (R:Rib) (u:Int):Int × Int :=
 if ¬ (0≤u∧u≤R.L-1) then (0,1) else if u ∈ R.F then (0,5) else if (R.F.length:Int)=12 then (0,9) else (valD R 0-valD (addR R u) 0,0)
def menL (R:Rib) (u:Int):Int × Int :=
 if ¬ (0≤u∧u≤R.L-1) then (0,1) else if u ∈ R.F then (valD (delR R u) 0-valD R 0,0) else (0,6)
section
variable {R:Rib} {x:Nat}
def befD (R:Rib) (x:Nat):Int:=(bfN R x).getD x 0
end
section
variable {R:Rib}
def turF (R:Rib) (u:Int):List Int:=(upto R.L.toNat).filter fun y=>decide (y ∈ R.F) != decide (y=u)
end
end Go.AM
namespace Go.AM
open Go.Proofs.Tryz
def encW:Enc Wnt:=⟨5,fun w=>[.int .i64 w.lg,.int .i64 w.pr,.int .i64 w.off,.int .i64 w.fl,.int .i64 w.jn],fun _=>rfl,by decide⟩
theorem encW_sc:∀ y,(encW.cells y).all AVal.scalar=true:=fun _=>rfl
def encC:Enc Ct:=⟨3,fun c=>[.int .i64 c.w,.int .i64 c.f,.bool c.j],fun _=>rfl,by decide⟩
def encS:Enc (Int × Int):=⟨2,fun s=>[.int .i64 s.1,.int .i64 s.2],fun _=>rfl,by decide⟩
theorem encS_sc:∀ y,(encS.cells y).all AVal.scalar=true:=fun _=>rfl
def RibAt (h:Heap) (v:AVal) (R:Rib):Prop:=∃ fv wv,v=.agg [.int .i64 R.L,fv,wv]∧Ints h fv R.F∧Rows encW h wv R.W
theorem RibAt.ext {h H:Heap} {v:AVal} {R:Rib} (x:RibAt h v R) (e:Ext h H):RibAt H v R:=by
 obtain ⟨fv,wv,rfl,h1,h2⟩:=x
 exact ⟨fv,wv,rfl,h1.ext e,h2.ext e⟩
abbrev ribB (L:Int) (fv wv:AVal):ABlk:=⟨.cells [.int .i64 L,fv,wv] 38 false false,0⟩
def blB (F:List Int):List AVal:=(List.range 60).map fun u:Nat=>AVal.bool (decide ((u:Int) ∈ F))
theorem blB_len {F:List Int}:(blB F).length=60:=by simp [blB]
theorem blB_at {F:List Int} {u:Nat} (hu:u<60):(blB F)[u]?=some (.bool (decide ((u:Int) ∈ F))):=by
 unfold blB
 rw [List.getElem?_map,List.getElem?_range hu];rfl
theorem blB_set {F:List Int} {u:Nat} (hu:u<60):(blB F).set u (.bool true)=blB (F++[(u:Int)]):=by
 refine List.ext_getElem? fun i=>?_
 rw [List.getElem?_set,blB_len]
 by_cases hi:i<60
 ·rw [blB_at hi,blB_at hi]
  by_cases e:u=i
  ·subst e;rw [if_pos rfl,if_pos hu];simp
  ·rw [if_neg e]
   congr 2
   refine decide_eq_decide.2 ⟨fun q=>List.mem_append.2 (.inl q),fun q=>?_⟩
   rcases List.mem_append.1 q with q|q
   ·exact q
   ·simp at q;omega
 ·rw [List.getElem?_eq_none (by rw [blB_len];omega),List.getElem?_eq_none (by rw [blB_len];omega)]
  split
  ·omega
  ·rfl
def dskB (L:Int) (fv wv:AVal) (F:List Int):ABlk:=⟨.cells (.int .i64 L :: fv :: wv :: blB F) 257 false false,0⟩
def DskAt (h:Heap) (id:Nat) (R:Rib):Prop:=∃ fv wv,h[id]?=some (dskB R.L fv wv R.F)∧Ints h fv R.F∧Rows encW h wv R.W
theorem dsk_st {L:Int} {fv wv:AVal} {F:List Int} {base d u:Nat} {K:ABlk→Heap} (hb:base≤d) (hu:u<60):stQ base d (some (dskB L fv wv F)) 0 (3+u) [.bool true] K=some (K (dskB L fv wv (F++[(u:Int)]))):=by
 unfold dskB
 rw [stQ_own hb (by simp [blB_len];omega) rfl]
 congr 2
 simp only [splice]
 rw [show 3+u=u+1+1+1 by omega,List.set_cons_succ,List.set_cons_succ,List.set_cons_succ,blB_set hu]
end Go.AM
namespace Go.AM
open Go.Proofs.Tryz
def ixI (l:List Int) (x:Int):Int:=if x ∈ l then (l.idxOf x:Nat) else -1
theorem ixI_ge {l:List Int} {x:Int}:(ixI l x ≥ 0)=(x ∈ l):=by
 unfold ixI
 by_cases h:x ∈ l
 ·rw [if_pos h];exact propext ⟨fun _=>h,fun _=>by omega⟩
 ·rw [if_neg h];exact propext ⟨fun q=>by omega,fun q=>absurd q h⟩
theorem ixI_at:∀ {l:List Int} {x:Int} {n:Nat},n<l.length→l.getD n 0=x→(∀ j,j<n→l.getD j 0 ≠ x)→ixI l x=(n:Int):=by
 intro l x n hn he hj
 have hm:x ∈ l:=by
  rw [← he,List.getD_eq_getElem?_getD,List.getElem?_eq_getElem hn]
  exact List.getElem_mem hn
 rw [ixI,if_pos hm]
 have h2:=List.getElem_idxOf (List.idxOf_lt_length_of_mem hm)
 have h3:=List.idxOf_lt_length_of_mem hm
 have g:∀ k,(hk:k<l.length)→l.getD k 0=l[k]:=fun k hk=>by rw [List.getD_eq_getElem?_getD,List.getElem?_eq_getElem hk];rfl
 have a1:¬ l.idxOf x<n:=fun q=>hj _ q (by rw [g _ h3];exact h2)
 have a2:¬ n<l.idxOf x:=fun q=>by
  have:=List.not_of_lt_findIdx (p:=(· == x)) (xs:=l) (i:=n) q
  rw [g _ hn] at he
  simp [he] at this
 omega
theorem ixI_no {l:List Int} {x:Int} (hj:∀ j,j<l.length→l.getD j 0 ≠ x):ixI l x=-1:=by
 refine if_neg fun q=>?_
 obtain ⟨i,hi,e⟩:=List.getElem_of_mem q
 exact hj i hi (by rw [List.getD_eq_getElem?_getD,List.getElem?_eq_getElem hi];exact e)
theorem run_index {base:Nat} {h:Heap} {a:AVal} {l:List Int} {x:Int} (ha:Ints h a l):callL prog raw base (.fn 82 [] []) [a,.int .i64 x] h=some (.int .i64 (ixI l x),h):=by
 have hl:=ha.1.1
 refine callL_run func82 rfl rfl ?_
 have hsp:=@Nat.succ_ne_zero;repeat' (first|simp (disch:=first|exact dq|fail) only [go_sem,hsp]|refine WP_drw ?_|refine cnd_intro (fun hsp=>?_) fun hsp=>?_)
 refine WP_loop (fun σ=>∃ n:Nat,σ.fr 8=.int .i64 (n:Int)∧σ.fr 0=a∧σ.fr 1=.int .i64 x∧σ.fr 7=.int .i64 (l.length:Int)∧σ.h=h∧n≤l.length∧(∀ j,j<n→l.getD j 0 ≠ x)) (fun σ=>match σ.fr 8 with|.int _ x=>(((l.length:Nat):Int)-x).toNat|_=>0) ?_ ?_
 ·refine ⟨0,?_,?_,?_,?_,?_,by omega,?_⟩
  iterate 5 focus (first|rfl|(simp (disch:=first|exact dq|fail) only [go_sem,Int.natCast_zero];first|done|rfl))
  intro j hj;omega
 ·rintro ⟨fr,hp⟩ ⟨n,r8,r0,r1,r7,rh,hi,hP⟩
  dsimp only at r8 r0 r1 r7 rh hi hP
  subst rh
  by_cases hn:n<l.length
  ·have hlt:((n:Int)<(l.length:Int))=True:=eq_true (by omega)
   by_cases he:x=l.getD n 0
   ·have t2:(x=l.getD n 0)=True:=eq_true he
    have hsp:=@Nat.succ_ne_zero;repeat' (first|simp (disch:=first|exact dq|fail) only [go_sem,hsp,r8,r0,r1,r7,hlt,t2]|refine WP_drw ?_|refine cnd_intro (fun hsp=>?_) fun hsp=>?_)
    exact fI (ixI_at hn he.symm hP).symm
   ·have t2:(x=l.getD n 0)=False:=eq_false he
    have hsp:=@Nat.succ_ne_zero;repeat' (first|simp (disch:=first|exact dq|fail) only [go_sem,hsp,r8,r0,r1,r7,hlt,t2]|refine WP_drw ?_|refine cnd_intro (fun hsp=>?_) fun hsp=>?_)
    refine ⟨⟨n+1,by simp,by omega,fun j hj=>?_⟩,by omega⟩
    by_cases e:j=n
    ·subst e;exact fun q=>he q.symm
    ·exact hP j (by omega)
  ·have hlt:((n:Int)<(l.length:Int))=False:=eq_false (by omega)
   have hsp:=@Nat.succ_ne_zero;repeat' (first|simp (disch:=first|exact dq|fail) only [go_sem,hsp,r8,r0,r1,r7,hlt]|refine WP_drw ?_|refine cnd_intro (fun hsp=>?_) fun hsp=>?_)
   exact fI (ixI_no fun j hj=>hP j (by omega)).symm
theorem run_contains {base:Nat} {h:Heap} {a:AVal} {l:List Int} {x:Int} (ha:Ints h a l):callL prog raw base (.fn 29 [] []) [a,.int .i64 x] h=some (.bool (decide (x ∈ l)),h):=by
 have e:=fun base=>@run_index base h a l x ha
 have e2:=@ixI_ge l x
 refine callL_run func29 rfl rfl ?_
 have hsp:=@Nat.succ_ne_zero;repeat' (first|simp (disch:=first|exact dq|fail) only [go_sem,hsp,e,e2]|refine WP_drw ?_|refine cnd_intro (fun hsp=>?_) fun hsp=>?_)
 exact fB rfl
end Go.AM
namespace Go.AM
open Go.Proofs.Tryz
theorem idxF_W {base:Nat} {h:Heap} {v g:AVal} {l:List (Wnt)} (p:Wnt→Bool) (hR:Rows encW h v l) (hg:∀ base x,x ∈ l→callL prog raw base g [.agg (encW.cells x)] h=some (.bool (p x),h)) :
  callL prog raw base (.fn 286 [] []) [v,g] h=some (.int .i64 (idx p l),h):=by
 have hb:l.length<2 ^ 60:=hR.1
 refine callL_run func286 rfl rfl ?_
 have hsp:=@Nat.succ_ne_zero;repeat' (first|simp (disch:=first|exact dq|fail) only [go_sem,hsp,hR.len Fc.el36]|refine WP_drw ?_|refine cnd_intro (fun hsp=>?_) fun hsp=>?_)
 refine WP_loop (fun σ=>∃ n:Nat,σ.fr 8=.int .i64 (n:Int)∧σ.fr 0=v∧σ.fr 1=g∧σ.fr 7=.int .i64 (l.length:Int)∧σ.h=h∧n≤l.length∧(∀ x ∈ l.take n,p x=false)) (fun σ=>match σ.fr 8 with|.int _ x=>(((l.length:Nat):Int)-x).toNat|_=>0) ?_ ?_
 ·refine ⟨0,?_,?_,?_,?_,?_,by omega,?_⟩
  iterate 5 focus (first|rfl|(simp (disch:=first|exact dq|fail) only [go_sem,Int.natCast_zero];first|done|rfl))
  intro x hx;simp at hx
 ·rintro ⟨fr,hp⟩ ⟨n,r8,r0,r1,r7,rh,hi,hP⟩
  dsimp only at r8 r0 r1 r7 rh hi hP
  subst rh
  by_cases hn:n<l.length
  ·have hlt:((n:Int)<(l.length:Int))=True:=eq_true (by omega)
   have hx:l[n]?=some l[n]:=List.getElem?_eq_getElem hn
   have had:=hR.addr (i:=(n:Int)) Fc.el36 Fc.ar36 (by omega) (by omega)
   rw [Int.toNat_natCast] at had
   have hld:=hR.load Fc.ty74 hx
   have hc:=fun base=>hg base l[n] (List.getElem_mem hn)
   cases hp:p l[n] with
   | true =>
    rw [hp] at hc
    have hsp:=@Nat.succ_ne_zero;repeat' (first|simp (disch:=first|exact dq|fail) only [go_sem,hsp,r8,r0,r1,r7,hlt,had,hld,hc]|refine WP_drw ?_|refine cnd_intro (fun hsp=>?_) fun hsp=>?_)
    rw [idx_hit p hn hP hp]
    all_goals (first|refine fI ?_|refine fB ?_|refine fII ?_ ?_|refine fBI ?_ ?_|refine fIII ?_ ?_ ?_|refine fIIB ?_ ?_ ?_|skip);all_goals (try dsimp only);all_goals (try with_reducible rfl);all_goals (try omega)
   | false =>
    rw [hp] at hc
    have hsp:=@Nat.succ_ne_zero;repeat' (first|simp (disch:=first|exact dq|fail) only [go_sem,hsp,r8,r0,r1,r7,hlt,had,hld,hc]|refine WP_drw ?_|refine cnd_intro (fun hsp=>?_) fun hsp=>?_)
    exact ⟨⟨n+1,by simp,by omega,take_next p hn hP hp⟩,by omega⟩
  ·have hlt:((n:Int)<(l.length:Int))=False:=eq_false (by omega)
   obtain rfl:n=l.length:=by omega
   have hsp:=@Nat.succ_ne_zero;repeat' (first|simp (disch:=first|exact dq|fail) only [go_sem,hsp,r8,r0,r1,r7,hlt]|refine WP_drw ?_|refine cnd_intro (fun hsp=>?_) fun hsp=>?_)
   rw [idx_miss p hP]
   all_goals (first|refine fI ?_|refine fB ?_|refine fII ?_ ?_|refine fBI ?_ ?_|refine fIII ?_ ?_ ?_|refine fIIB ?_ ?_ ?_|skip);all_goals (try dsimp only);all_goals (try with_reducible rfl);all_goals (try omega)
theorem anyF_W {base:Nat} {h:Heap} {v g:AVal} {l:List (Wnt)} (p:Wnt→Bool) (hR:Rows encW h v l) (hg:∀ base x,x ∈ l→callL prog raw base g [.agg (encW.cells x)] h=some (.bool (p x),h)) :
  callL prog raw base (.fn 253 [] []) [v,g] h=some (.bool (l.any p),h):=by
 have hi:=fun base=>idxF_W (base:=base) p hR hg
 have h0:=idx_any p l
 refine callL_run func253 rfl rfl ?_
 have hsp:=@Nat.succ_ne_zero;repeat' (first|simp (disch:=first|exact dq|fail) only [go_sem,hsp,hi]|refine WP_drw ?_|refine cnd_intro (fun hsp=>?_) fun hsp=>?_)
 refine fB ?_
 by_cases h1:l.any p=true
 ·rw [h1];simpa using h0.2 h1
 ·have h2:¬ 0≤idx p l:=fun h=>h1 (h0.1 h)
  simp only [Bool.not_eq_true] at h1
  rw [h1];simpa using h2
theorem not_W {base id:Nat} {h:Heap} {g:AVal} {x:Wnt} {b:Bool} (hid:h[id]?=some ⟨.cells [g] 313 false false,0⟩) (hg:∀ base T,callL prog raw base g [.agg (encW.cells x)] (h++T)=some (.bool b,h++T)) :
  callL prog raw base (.fn 254 [] [.ptr (some ⟨id,0,0⟩)]) [.agg (encW.cells x)] h=some (.bool (!b),h):=by
 have hgi:=lt_of_get hid
 simp only [encW] at hg ⊢
 refine callL_run func254 rfl rfl ?_
 have hsp:=@Nat.succ_ne_zero;repeat' (first|simp (disch:=first|exact dq|fail) only [go_sem,hsp,hid,hg]|refine WP_drw ?_|refine cnd_intro (fun hsp=>?_) fun hsp=>?_)
 exact fB rfl
theorem every_W {base:Nat} {h:Heap} {v g:AVal} {l:List (Wnt)} (p:Wnt→Bool) (hR:Rows encW h v l) (hg:∀ base T x,x ∈ l→callL prog raw base g [.agg (encW.cells x)] (h++T)=some (.bool (p x),h++T)) (h1:One g) :
  callL prog raw base (.fn 199 [] []) [v,g] h=some (.bool (l.all p),h):=by
 have hc:=fun base=>anyF_W (base:=base) (fun x=>!p x) hR.app (fun base x hx=>not_W (x:=x) (get_eq rfl) (fun base T=>by have:=hg base ([⟨.cells [g] 313 false false,0⟩]++T) x hx;rwa [← List.append_assoc] at this))
 refine callL_run func199 rfl rfl ?_
 have hsp:=@Nat.succ_ne_zero;repeat' (first|simp (disch:=first|exact dq|fail) only [go_sem,hsp,hc]|refine WP_drw ?_|refine cnd_intro (fun hsp=>?_) fun hsp=>?_)
 refine fB ?_
 rw [List.any_eq_not_all_not]
 simp
theorem idxF_I {base:Nat} {h:Heap} {v g:AVal} {l:List (Int)} (p:Int→Bool) (hR:Ints h v l) (hg:∀ base x,x ∈ l→callL prog raw base g [.int .i64 x] h=some (.bool (p x),h)) :
  callL prog raw base (.fn 166 [] []) [v,g] h=some (.int .i64 (idx p l),h):=by
 have hb:l.length<2 ^ 60:=hR.1.1
 refine callL_run func166 rfl rfl ?_
 have hsp:=@Nat.succ_ne_zero;repeat' (first|simp (disch:=first|exact dq|fail) only [go_sem,hsp,lenI hR]|refine WP_drw ?_|refine cnd_intro (fun hsp=>?_) fun hsp=>?_)
 refine WP_loop (fun σ=>∃ n:Nat,σ.fr 8=.int .i64 (n:Int)∧σ.fr 0=v∧σ.fr 1=g∧σ.fr 7=.int .i64 (l.length:Int)∧σ.h=h∧n≤l.length∧(∀ x ∈ l.take n,p x=false)) (fun σ=>match σ.fr 8 with|.int _ x=>(((l.length:Nat):Int)-x).toNat|_=>0) ?_ ?_
 ·refine ⟨0,?_,?_,?_,?_,?_,by omega,?_⟩
  iterate 5 focus (first|rfl|(simp (disch:=first|exact dq|fail) only [go_sem,Int.natCast_zero];first|done|rfl))
  intro x hx;simp at hx
 ·rintro ⟨fr,hp⟩ ⟨n,r8,r0,r1,r7,rh,hi,hP⟩
  dsimp only at r8 r0 r1 r7 rh hi hP
  subst rh
  by_cases hn:n<l.length
  ·have hlt:((n:Int)<(l.length:Int))=True:=eq_true (by omega)
   have hx:l[n]?=some l[n]:=List.getElem?_eq_getElem hn
   have had:=adrI (i:=(n:Int)) (by omega) hR (by omega)
   rw [Int.toNat_natCast] at had
   have hld:=loadI hR hn
   rw [getD_at hn] at hld
   have hc:=fun base=>hg base l[n] (List.getElem_mem hn)
   cases hp:p l[n] with
   | true =>
    rw [hp] at hc
    have hsp:=@Nat.succ_ne_zero;repeat' (first|simp (disch:=first|exact dq|fail) only [go_sem,hsp,r8,r0,r1,r7,hlt,had,hld,hc]|refine WP_drw ?_|refine cnd_intro (fun hsp=>?_) fun hsp=>?_)
    rw [idx_hit p hn hP hp]
    all_goals (first|refine fI ?_|refine fB ?_|refine fII ?_ ?_|refine fBI ?_ ?_|refine fIII ?_ ?_ ?_|refine fIIB ?_ ?_ ?_|skip);all_goals (try dsimp only);all_goals (try with_reducible rfl);all_goals (try omega)
   | false =>
    rw [hp] at hc
    have hsp:=@Nat.succ_ne_zero;repeat' (first|simp (disch:=first|exact dq|fail) only [go_sem,hsp,r8,r0,r1,r7,hlt,had,hld,hc]|refine WP_drw ?_|refine cnd_intro (fun hsp=>?_) fun hsp=>?_)
    exact ⟨⟨n+1,by simp,by omega,take_next p hn hP hp⟩,by omega⟩
  ·have hlt:((n:Int)<(l.length:Int))=False:=eq_false (by omega)
   obtain rfl:n=l.length:=by omega
   have hsp:=@Nat.succ_ne_zero;repeat' (first|simp (disch:=first|exact dq|fail) only [go_sem,hsp,r8,r0,r1,r7,hlt]|refine WP_drw ?_|refine cnd_intro (fun hsp=>?_) fun hsp=>?_)
   rw [idx_miss p hP]
   all_goals (first|refine fI ?_|refine fB ?_|refine fII ?_ ?_|refine fBI ?_ ?_|refine fIII ?_ ?_ ?_|refine fIIB ?_ ?_ ?_|skip);all_goals (try dsimp only);all_goals (try with_reducible rfl);all_goals (try omega)
theorem anyF_I {base:Nat} {h:Heap} {v g:AVal} {l:List (Int)} (p:Int→Bool) (hR:Ints h v l) (hg:∀ base x,x ∈ l→callL prog raw base g [.int .i64 x] h=some (.bool (p x),h)) :
  callL prog raw base (.fn 76 [] []) [v,g] h=some (.bool (l.any p),h):=by
 have hi:=fun base=>idxF_I (base:=base) p hR hg
 have h0:=idx_any p l
 refine callL_run func76 rfl rfl ?_
 have hsp:=@Nat.succ_ne_zero;repeat' (first|simp (disch:=first|exact dq|fail) only [go_sem,hsp,hi]|refine WP_drw ?_|refine cnd_intro (fun hsp=>?_) fun hsp=>?_)
 refine fB ?_
 by_cases h1:l.any p=true
 ·rw [h1];simpa using h0.2 h1
 ·have h2:¬ 0≤idx p l:=fun h=>h1 (h0.1 h)
  simp only [Bool.not_eq_true] at h1
  rw [h1];simpa using h2
theorem not_I {base id:Nat} {h:Heap} {g:AVal} {x:Int} {b:Bool} (hid:h[id]?=some ⟨.cells [g] 132 false false,0⟩) (hg:∀ base T,callL prog raw base g [.int .i64 x] (h++T)=some (.bool b,h++T)) :
  callL prog raw base (.fn 255 [] [.ptr (some ⟨id,0,0⟩)]) [.int .i64 x] h=some (.bool (!b),h):=by
 have hgi:=lt_of_get hid
 have hg0:=fun base=>hg base []
 simp only [List.append_nil] at hg0
 refine callL_run func255 rfl rfl ?_
 have hsp:=@Nat.succ_ne_zero;repeat' (first|simp (disch:=first|exact dq|fail) only [go_sem,hsp,hid,hg0]|refine WP_drw ?_|refine cnd_intro (fun hsp=>?_) fun hsp=>?_)
 exact fB rfl
theorem every_I {base:Nat} {h:Heap} {v g:AVal} {l:List (Int)} (p:Int→Bool) (hR:Ints h v l) (hg:∀ base T x,x ∈ l→callL prog raw base g [.int .i64 x] (h++T)=some (.bool (p x),h++T)) (h1:One g) :
  callL prog raw base (.fn 201 [] []) [v,g] h=some (.bool (l.all p),h):=by
 have hc:=fun base=>anyF_I (base:=base) (fun x=>!p x) hR.app (fun base x hx=>not_I (x:=x) (get_eq rfl) (fun base T=>by have:=hg base ([⟨.cells [g] 132 false false,0⟩]++T) x hx;rwa [← List.append_assoc] at this))
 refine callL_run func201 rfl rfl ?_
 have hsp:=@Nat.succ_ne_zero;repeat' (first|simp (disch:=first|exact dq|fail) only [go_sem,hsp,hc]|refine WP_drw ?_|refine cnd_intro (fun hsp=>?_) fun hsp=>?_)
 refine fB ?_
 rw [List.any_eq_not_all_not]
 simp
end Go.AM
namespace Go.AM
open Go.Proofs.Tryz
attribute [-go_sem] put_ne put_same
attribute [local go_sem ↓] put_if
theorem run_inn {base:Nat} {h:Heap} {n lo hi:Int}:callL prog raw base (.fn 198 [] []) [.int .i64 n,.int .i64 lo,.int .i64 hi] h=some (.bool (decide (lo≤n∧n≤hi)),h):=by
 refine callL_run func198 rfl rfl ?_
 by_cases h1:lo≤n
 ·have t1:(n ≥ lo)=True:=eq_true h1
  have hsp:=@Nat.succ_ne_zero;repeat' (first|simp (disch:=first|exact dq|fail) only [go_sem,↓reduceIte,hsp,t1]|refine WP_drw ?_|refine cnd_intro (fun hsp=>?_) fun hsp=>?_)
  refine fB ?_
  simp [h1]
 ·have t1:(n ≥ lo)=False:=eq_false h1
  have hsp:=@Nat.succ_ne_zero;repeat' (first|simp (disch:=first|exact dq|fail) only [go_sem,↓reduceIte,hsp,t1]|refine WP_drw ?_|refine cnd_intro (fun hsp=>?_) fun hsp=>?_)
  refine fB ?_
  simp [h1]
attribute [go_sem] run_inn
def mxF (n:Int) (l:List Int):Int:=l.foldl max n
section
variable {base:Nat} {h:Heap} {L x:Int} {fv wv:AVal} {W:List Wnt}
theorem run_unit (hL:-100000≤L∧L≤100000) (o1:One fv) (o2:One wv):callL prog raw base (.fn 149 [] []) [.agg [.int .i64 L,fv,wv],.int .i64 x] h=some (.bool (decide (0≤x∧x≤L-1)),h):=by
 refine callL_run func149 rfl rfl ?_
 have hsp:=@Nat.succ_ne_zero;repeat' (first|simp (disch:=first|exact dq|fail) only [go_sem,↓reduceIte,hsp]|refine WP_drw ?_|refine cnd_intro (fun hsp=>?_) fun hsp=>?_)
 exact fB rfl
theorem run_unit' (hL:-100000≤L∧L≤100000) (o1:One fv) (o2:One wv):callL prog raw base (.fn 149 [.agg [.int .i64 L,fv,wv]] []) [.int .i64 x] h=some (.bool (decide (0≤x∧x≤L-1)),h):=by
 refine callL_run func149 rfl rfl ?_
 have hsp:=@Nat.succ_ne_zero;repeat' (first|simp (disch:=first|exact dq|fail) only [go_sem,↓reduceIte,hsp]|refine WP_drw ?_|refine cnd_intro (fun hsp=>?_) fun hsp=>?_)
 exact fB rfl
theorem run_right {w:Wnt}:callL prog raw base (.fn 200 [] []) [.agg (encW.cells w)] h=some (.bool (wntB w),h):=by
 simp only [encW]
 unfold wntB
 refine callL_run func200 rfl rfl ?_
 by_cases c1:1≤w.lg∧w.lg≤60
 ·have t1:decide (1≤w.lg∧w.lg≤60)=true:=decide_eq_true c1
  by_cases c2:0≤w.pr∧w.pr≤100
  ·have t2:decide (0≤w.pr∧w.pr≤100)=true:=decide_eq_true c2
   by_cases c3:0≤w.off∧w.off≤20
   ·have t3:decide (0≤w.off∧w.off≤20)=true:=decide_eq_true c3
    by_cases c4:0≤w.fl∧w.fl≤4
    ·have t4:decide (0≤w.fl∧w.fl≤4)=true:=decide_eq_true c4
     have hsp:=@Nat.succ_ne_zero;repeat' (first|simp (disch:=first|exact dq|fail) only [go_sem,↓reduceIte,hsp,t1,t2,t3,t4]|refine WP_drw ?_|refine cnd_intro (fun hsp=>?_) fun hsp=>?_)
     exact fB (by simp)
    ·have t4:decide (0≤w.fl∧w.fl≤4)=false:=decide_eq_false c4
     have hsp:=@Nat.succ_ne_zero;repeat' (first|simp (disch:=first|exact dq|fail) only [go_sem,↓reduceIte,hsp,t1,t2,t3,t4]|refine WP_drw ?_|refine cnd_intro (fun hsp=>?_) fun hsp=>?_)
     exact fB (by simp)
   ·have t3:decide (0≤w.off∧w.off≤20)=false:=decide_eq_false c3
    have hsp:=@Nat.succ_ne_zero;repeat' (first|simp (disch:=first|exact dq|fail) only [go_sem,↓reduceIte,hsp,t1,t2,t3]|refine WP_drw ?_|refine cnd_intro (fun hsp=>?_) fun hsp=>?_)
    exact fB (by simp)
  ·have t2:decide (0≤w.pr∧w.pr≤100)=false:=decide_eq_false c2
   have hsp:=@Nat.succ_ne_zero;repeat' (first|simp (disch:=first|exact dq|fail) only [go_sem,↓reduceIte,hsp,t1,t2]|refine WP_drw ?_|refine cnd_intro (fun hsp=>?_) fun hsp=>?_)
   exact fB (by simp)
 ·have t1:decide (1≤w.lg∧w.lg≤60)=false:=decide_eq_false c1
  have hsp:=@Nat.succ_ne_zero;repeat' (first|simp (disch:=first|exact dq|fail) only [go_sem,↓reduceIte,hsp,t1]|refine WP_drw ?_|refine cnd_intro (fun hsp=>?_) fun hsp=>?_)
  exact fB (by simp)
end
theorem Ints.lowR {h G:Heap} {v:AVal} {l:List Int} (hI:Ints h v l) (e:Ext h G):refsLow G.length v:=by
 rcases hI.2 with ⟨rfl,_⟩|⟨rfl,_⟩|⟨r,k,c,e1,row,ro,rfl,h2,_⟩
 ·exact refsLow_nil
 ·rfl
 ·exact refsLow_slice (lt_of_get (e.get h2))
theorem rise_iff {l:List Int}:riseB l=true ↔ l.Pairwise (·<·):=by
 unfold riseB
 rw [decide_eq_true_iff,List.pairwise_iff_getElem]
 constructor
 ·intro h
  have main:∀ (d i:Nat) (hi:i<l.length) (hj:i+d+1<l.length),l[i]<l[i+d+1]:=by
   intro d
   induction d with
   | zero =>
    intro i hi hj
    have:=h (i+0+1) hj (by omega)
    rw [getD_at hj,getD_at (by omega)] at this
    exact this
   | succ d ih =>
    intro i hi hj
    have h1:=ih i hi (by omega)
    have h2:=h (i+(d+1)+1) hj (by omega)
    rw [getD_at hj,getD_at (by omega)] at h2
    exact Int.lt_trans h1 h2
  intro i j hi hj hij
  have:=main (j-i-1) i hi (by omega)
  simpa [show i+(j-i-1)+1=j by omega] using this
 ·intro h i hi h0
  rw [getD_at hi,getD_at (by omega)]
  exact h _ _ (by omega) hi (by omega)
set_option maxHeartbeats 2000000 in
theorem stN2 {base:Nat} {l:List Oper} {s:St} {Q:AExit→St→Prop}:WP prog raw base (.region 8 l.toArray true) s Q=WPS prog raw base (.region 8 l.toArray true) s Q:=WP_stop
attribute [local go_sem ↓ 3000] stN2
theorem run_Check {base:Nat} {h:Heap} {v:AVal} {R:Rib} (hR:RibAt h v R) (hsm:R.F.length≤1048576):callL prog raw base (.fn 129 [] []) [v] h=some (.int .i64 (chkR R),h):=by
 obtain ⟨fv,wv,rfl,hF,hW⟩:=hR
 have o1:=hF.one
 have o2:=hW.one
 obtain ⟨G0,eG0⟩:∃ G0,G0=h++[ribB R.L fv wv]:=⟨_,rfl⟩
 have x0:Ext h G0:=by rw [eG0];exact .app .refl
 have g0:G0[h.length]?=some (ribB R.L fv wv):=by rw [eG0];exact get_eq rfl
 have l0:G0.length=h.length+1:=by rw [eG0];simp
 have iF:=hF.ext x0
 have iW:=hW.ext x0
 have hn1:=lenI iF
 have hn2:=iW.len (P:=prog) Fc.el36
 have ev1:=fun base=>every_W (base:=base) (g:=.fn 200 [] []) wntB iW (fun base T x _=>run_right) ⟨rfl,rfl,rfl⟩
 unfold ribB at eG0 g0
 refine callL_run func129 rfl rfl ?_
 by_cases c0:1≤R.L∧R.L≤60
 ·have t0:decide (1≤R.L∧R.L≤60)=true:=decide_eq_true c0
  by_cases c1:(R.F.length:Int) > 12
  ·have t1:((R.F.length:Int) > 12)=True:=eq_true c1
   have hsp:=@Nat.succ_ne_zero;repeat' (first|simp (disch:=first|exact dq|fail) only [go_sem,↓reduceIte,hsp,← eG0,g0,t0,hn1,t1]|refine WP_drw ?_|refine cnd_intro (fun hsp=>?_) fun hsp=>?_)
   refine fI ?_ x0
   unfold chkR
   rw [if_pos (.inr (.inl c1))]
  ·have t1:((R.F.length:Int) > 12)=False:=eq_false c1
   by_cases c2:(R.W.length:Int) > 6
   ·have t2:((R.W.length:Int) > 6)=True:=eq_true c2
    have hsp:=@Nat.succ_ne_zero;repeat' (first|simp (disch:=first|exact dq|fail) only [go_sem,↓reduceIte,hsp,← eG0,g0,t0,hn1,t1,hn2,t2]|refine WP_drw ?_|refine cnd_intro (fun hsp=>?_) fun hsp=>?_)
    refine fI ?_ x0
    unfold chkR
    rw [if_pos (.inr (.inr c2))]
   ·have t2:((R.W.length:Int) > 6)=False:=eq_false c2
    have u0:¬ (¬ (1≤R.L∧R.L≤60) ∨ (R.F.length:Int) > 12 ∨ (R.W.length:Int) > 6):=by omega
    have ev2:=fun base=>every_I (base:=base) (g:=.fn 149 [.agg [.int .i64 R.L,fv,wv]] []) (fun x=>decide (0≤x∧x≤R.L-1)) iF (fun base T x _=>run_unit' (by omega) o1 o2) ⟨rfl,rfl,rfl⟩
    cases c3:R.W.all wntB with
    | false =>
     rw [c3] at ev1
     have hsp:=@Nat.succ_ne_zero;repeat' (first|simp (disch:=first|exact dq|fail) only [go_sem,↓reduceIte,hsp,← eG0,g0,t0,hn1,t1,hn2,t2,ev1]|refine WP_drw ?_|refine cnd_intro (fun hsp=>?_) fun hsp=>?_)
     refine fI ?_ x0
     unfold chkR
     rw [if_neg u0,if_pos (by rw [c3];simp)]
    | true =>
     rw [c3] at ev1
     cases c4:(R.F.all fun x=>decide (0≤x∧x≤R.L-1)) with
     | false =>
      rw [c4] at ev2
      have hsp:=@Nat.succ_ne_zero;repeat' (first|simp (disch:=first|exact dq|fail) only [go_sem,↓reduceIte,hsp,← eG0,g0,t0,hn1,t1,hn2,t2,ev1,ev2]|refine WP_drw ?_|refine cnd_intro (fun hsp=>?_) fun hsp=>?_)
      refine fI ?_ x0
      unfold chkR
      rw [if_neg u0,if_neg (by rw [c3];simp),if_pos (by rw [c4];simp)]
     | true =>
      rw [c4] at ev2
      have u3:¬ ¬ R.W.all wntB=true:=by rw [c3];simp
      have u4:¬ ¬ (R.F.all fun x=>decide (0≤x∧x≤R.L-1))=true:=by rw [c4];simp
      have hs:Small R.F:=⟨by omega,hF.1.2⟩
      have hso0:=fun base=>run_sorted (base:=base) iF
      have hc:=fun base=>run_clone (base:=base) iF hs
      have hFl:=hF.1.1
      have hsp:=@Nat.succ_ne_zero;repeat' (first|simp (disch:=first|exact dq|fail) only [go_sem,↓reduceIte,hsp,← eG0,g0,t0,hn1,t1,hn2,t2,ev1,ev2]|refine WP_drw ?_|refine cnd_intro (fun hsp=>?_) fun hsp=>?_)
      refine WPS_go ?_
      cases hso:sortB R.F with
      | false =>
       have hr:¬ R.F.Pairwise (·<·):=fun q=>by
        have q:=of_decide_eq_true (rise_iff.2 q)
        unfold sortB at hso
        exact of_decide_eq_false hso fun i h1 h2=>by have:=q i h1 h2;omega
       rw [hso] at hso0
       refine WP_drw ?_
       have hsp:=@Nat.succ_ne_zero;repeat' (first|simp (disch:=first|exact dq|fail) only [go_sem,↓reduceIte,hsp,g0,hso0]|refine WP_drw ?_|refine cnd_intro (fun hsp=>?_) fun hsp=>?_)
       refine fI ?_ x0
       unfold chkR
       rw [if_neg u0,if_neg u3,if_neg u4,if_pos hr]
      | true =>
       rw [hso] at hso0
       have hso2:=of_decide_eq_true hso
       have key:nodup R.F ↔ R.F.Pairwise (·<·):=by
        rw [← rise_iff]
        unfold riseB nodup
        rw [decide_eq_true_iff]
        exact ⟨fun hd i h1 h2=>by have:=hd i h1 h2;have:=hso2 i h1 h2;omega,fun hh i h1 h2=>by have:=hh i h1 h2;omega⟩
       by_cases hz:nilB fv=true ∨ R.F=[]
       ·have hl0:R.F=[]:=hz.elim (fun hn=>(hF.nilB_nil hn).2) id
        have hic:Ints G0 (cloneV fv G0.length R.F) R.F:=by
         have:=cloneV_ints iF hs
         rw [hl0] at this ⊢
         simpa [cloneH,newH_nil] using this
        obtain ⟨cv,CH,ce,hv1,hv2⟩:=run_compact0 (base:=h.length) hic (by rw [hl0];simp)
        rw [hv1,hv2] at ce
        have hce:G0++cloneH fv R.F=G0:=by rw [hl0];simp [cloneH,newH_nil]
        rw [hce] at hc
        have hlt:((R.F.length:Int)<(R.F.length:Int))=False:=eq_false (by omega)
        refine WP_drw ?_
        have hsp:=@Nat.succ_ne_zero;repeat' (first|simp (disch:=first|exact dq|fail) only [go_sem,↓reduceIte,hsp,g0,hso0,hc,ce,hn1,lenI hic,hlt]|refine WP_drw ?_|refine cnd_intro (fun hsp=>?_) fun hsp=>?_)
        refine fI ?_ x0
        unfold chkR
        rw [if_neg u0,if_neg u3,if_neg u4,if_neg (by rw [hl0];simp)]
       ·have hne:R.F ≠ []:=fun e=>hz (.inr e)
        have hnb:nilB fv=false:=by simpa using fun e=>hz (.inl e)
        have e1:∀ n,cloneV fv n R.F=.slice (some ⟨n,0,0⟩) R.F.length R.F.length:=fun n=>by rw [cloneV,if_neg (by simp [hnb]),newV_ne hne]
        have e2:cloneH fv R.F=[rowB R.F 0]:=by rw [cloneH,if_neg (by simp [hnb]),newH_ne hne]
        rw [e1,e2] at hc
        obtain ⟨cv,CH,ce,k,m,rfl,rfl,hm,hk,hiff⟩:=run_compact (base:=h.length) (h:=G0++[rowB R.F 0]) (id:=G0.length) (get_eq rfl) hs
        rw [set_eq rfl] at ce
        have hIm:=lenI (iF.ext (.app (t:=[rowB m 0]) .refl))
        obtain ⟨G2,eG2⟩:∃ G2,G2=G0++[rowB m 0]:=⟨_,rfl⟩
        rw [← eG2] at ce hIm
        have x2:Ext G0 G2:=by rw [eG2];exact .app .refl
        have g2:=x2.get g0
        have g1:(G0++[rowB R.F 0])[h.length]?=_:=get_app g0
        have hkl:lenOpA prog G2 35 (.slice (some ⟨G0.length,0,0⟩) k R.F.length)=some (.int .i64 (k:Int)):=len_sl Fc.el35
        have hlow:refsLow G0.length fv:=hF.lowR x0
        refine WP_wild [⟨11,35,45,⟨h.length,0,1⟩,fv,100⟩] (by kernel_rfl) (by kernel_rfl) (by kernel_rfl) ⟨hlow,trivial⟩ fun K hK=>?_
        iterate 16
         rw [TRS_cons]
         refine ⟨by first|(simp (disch:=first|exact dq|fail) only [go_sem,↓reduceIte,g0,g1,g2,hso0,hc,ce,hIm,hkl,ldsQ_cons,ldsQ_nil,grdQ_cons,grdQ_nil,if_true,Nat.reduceLeDiff];done)|exact trivial,?_⟩
         simp (disch:=first|exact dq|fail) only [go_sem,↓reduceIte,g0,g1,g2,hso0,hc,ce,hIm,hkl]
        rw [TRS_nil]
        refine ⟨by first|(simp (disch:=first|exact dq|fail) only [go_sem,↓reduceIte,g0,g1,g2,hso0,hc,ce,hIm,hkl,ldsQ_cons,ldsQ_nil,grdQ_cons,grdQ_nil,if_true,Nat.reduceLeDiff];done)|exact trivial,?_⟩
        subst hK
        by_cases hd:nodup R.F
        ·have:=hiff.2 hd
         have hlt:((k:Int)<(R.F.length:Int))=False:=eq_false (by omega)
         have hsp:=@Nat.succ_ne_zero;repeat' (first|simp (disch:=first|exact dq|fail) only [go_sem,↓reduceIte,hsp,hlt]|refine WP_drw ?_|refine cnd_intro (fun hsp=>?_) fun hsp=>?_)
         refine fI ?_ (x0.trans x2)
         unfold chkR
         rw [if_neg u0,if_neg u3,if_neg u4,if_neg (fun q=>q (key.1 hd))]
        ·have hkn:¬ k=R.F.length:=fun e=>hd (hiff.1 e)
         have hlt:((k:Int)<(R.F.length:Int))=True:=eq_true (by omega)
         have hsp:=@Nat.succ_ne_zero;repeat' (first|simp (disch:=first|exact dq|fail) only [go_sem,↓reduceIte,hsp,hlt]|refine WP_drw ?_|refine cnd_intro (fun hsp=>?_) fun hsp=>?_)
         refine fI ?_ (x0.trans x2)
         unfold chkR
         rw [if_neg u0,if_neg u3,if_neg u4,if_pos (fun q=>hd (key.2 q))]
 ·have t0:decide (1≤R.L∧R.L≤60)=false:=decide_eq_false c0
  have hsp:=@Nat.succ_ne_zero;repeat' (first|simp (disch:=first|exact dq|fail) only [go_sem,↓reduceIte,hsp,← eG0,g0,t0]|refine WP_drw ?_|refine cnd_intro (fun hsp=>?_) fun hsp=>?_)
  refine fI ?_ x0
  unfold chkR
  rw [if_pos (.inl c0)]
end Go.AM
