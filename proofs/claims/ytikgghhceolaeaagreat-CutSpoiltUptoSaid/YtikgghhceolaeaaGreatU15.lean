/-
  Contracts: short lists of integers are sorted in place (slices.Sort, at most 12 elements).
-/
import Derived.Test.YtikgghhceolaeaaGreatU12
import Derived.Test.YtikgghhceolaeaaGreatU13
import Derived.Test.YtikgghhceolaeaaGreatU14
set_option linter.unusedSimpArgs false
set_option linter.unusedVariables false
namespace Go.AM
open Go.Proofs.Tryz
attribute [-go_sem] put_ne put_same
attribute [local go_sem ↓] put_if
theorem ev_str {fr:AFrame} {s:ByteArray}:ev fr (.const (.string s))=.str s:=rfl
theorem ix_str {t:TypeId} {s:ByteArray} {k:IntKind} {n:Nat} (ha:arT prog t=none) (hs:strT prog t=true):indexA prog t (.str s) (.int k (n:Int))=(s[n]?).map fun b=>.int .u8 b.toNat:=by
 unfold indexA
 rw [ha]
 simp only [hs,true_and]
 rw [if_pos (by omega),Int.toNat_natCast]
def lenT (n:Nat):Nat:=[0,1,2,2,3,3,3,3,4,4,4,4,4].getD n 0
theorem lenT_lt {n:Nat}:lenT n≤4:=by
 by_cases h:n<13
 ·have:∀ n:Fin 13,lenT n≤4:=by decide
  exact this ⟨n,h⟩
 ·unfold lenT
  rw [List.getD_eq_getElem?_getD,List.getElem?_eq_none (by simp;omega)];decide
theorem len_key {k n:Nat} {s:ByteArray} {K:AVal→Prop} (h:s[n]?=some (UInt8.ofNat k)) (hk:k≤4) (hK:K (.int .u8 (k:Int))):bindv ((s[n]?).map fun b=>AVal.int .u8 (b.toNat:Int)) K:=by
 rw [h]
 simp only [Option.map_some,bindv_some]
 have:(UInt8.ofNat k).toNat=k:=by rw [UInt8.toNat_ofNat'];exact Nat.mod_eq_of_lt (by omega)
 rw [this]
 exact hK
theorem run_len64 {base n:Nat} {h:Heap} (hn:n≤12):callL prog raw base (.fn 172 [] []) [.int .u64 (n:Int)] h=some (.int .i64 (lenT n:Int),h):=by
 have t1:((n:Int) ≥ 4294967296)=False:=eq_false (by omega)
 have t2:((n:Int) ≥ 65536)=False:=eq_false (by omega)
 have t3:((n:Int) ≥ 256)=False:=eq_false (by omega)
 have c1:convA prog 5 89 (.int .u64 (n:Int))=some (.int .u8 (n:Int)):=by
  simp only [convA,underlying89,Fc.ik5]
  have e:(n:Int) % 2 ^ 8=n:=Int.emod_eq_of_lt (by omega) (by omega)
  simp only [IntKind.wrap,IntKind.signed,IntKind.bits,Bool.false_eq_true,Bool.false_and,if_false,e]
 have c2:∀ k:Nat,k≤4→convA prog 3 5 (.int .u8 (k:Int))=some (.int .i64 (k:Int)):=fun k hk=>by
  simp only [convA,underlying5,Fc.ik3]
  rw [wrap64 (by omega) (by omega)]
 have hl:=lenT_lt (n:=n)
 have c3:=c2 (lenT n) hl
 have ix:=fun (s:ByteArray) (k:IntKind)=>ix_str (t:=9) (s:=s) (k:=k) (n:=n) Fc.ar9 (by kernel_rfl)
 refine callL_run func172 rfl rfl ?_
 have hsp:=@Nat.succ_ne_zero;repeat' (first|simp (disch:=first|exact dqb|fail) only [go_sem,↓reduceIte,hsp,t1,t2,t3,c1,ev_str,ix]|refine WP_drw ?_|refine cnd_intro (fun hsp=>?_) fun hsp=>?_)
 refine len_key (k:=lenT n) ?_ hl ?_
 ·rcases (by omega:n=0 ∨ n=1 ∨ n=2 ∨ n=3 ∨ n=4 ∨ n=5 ∨ n=6 ∨ n=7 ∨ n=8 ∨ n=9 ∨ n=10 ∨ n=11 ∨ n=12) with e|e|e|e|e|e|e|e|e|e|e|e|e<;>subst e<;>kernel_rfl
 ·have hsp:=@Nat.succ_ne_zero;repeat' (first|simp (disch:=first|exact dqb|fail) only [go_sem,↓reduceIte,hsp,c3]|refine WP_drw ?_|refine cnd_intro (fun hsp=>?_) fun hsp=>?_)
  exact fI (by omega)
theorem run_len {base n:Nat} {h:Heap} (hn:n≤12):callL prog raw base (.fn 162 [] []) [.int .u64 (n:Int)] h=some (.int .i64 (lenT n:Int),h):=by
 have e:=fun base=>run_len64 (base:=base) (h:=h) hn
 refine callL_run func162 rfl rfl ?_
 have hsp:=@Nat.succ_ne_zero;repeat' (first|simp (disch:=first|exact dqb|fail) only [go_sem,↓reduceIte,hsp,e]|refine WP_drw ?_|refine cnd_intro (fun hsp=>?_) fun hsp=>?_)
 exact fI rfl
def Srt (m:List Int) (i j:Nat):Prop:=∀ a b,a<b→b≤i→b ≠ j→m.getD a 0≤m.getD b 0
def swp (m:List Int) (j:Nat):List Int:=(m.set (j+1) (m.getD j 0)).set j (m.getD (j+1) 0)
theorem getD_setI {l:List Int} {i j:Nat} {b:Int} (hi:i<l.length):(l.set i b).getD j 0=if i=j then b else l.getD j 0:=by
 rw [List.getD_eq_getElem?_getD,List.getElem?_set,List.getD_eq_getElem?_getD]
 by_cases e:i=j
 ·subst e;simp [hi]
 ·simp [e]
theorem swp_get {m:List Int} {j k:Nat} (hj:j+1<m.length):(swp m j).getD k 0=if k=j then m.getD (j+1) 0 else if k=j+1 then m.getD j 0 else m.getD k 0:=by
 unfold swp
 rw [getD_setI (by simp;omega),getD_setI (by omega)]
 repeat' split
 all_goals first|rfl|(exfalso;omega)
theorem swp_perm {m:List Int} {j:Nat} (hj:j+1<m.length):(swp m j).Perm m:=by
 have e:m=m.take j++m.getD j 0 :: m.getD (j+1) 0 :: m.drop (j+2):=by
  conv=>lhs;rw [← List.take_append_drop j m]
  congr 1
  rw [List.drop_eq_getElem_cons (by omega),List.drop_eq_getElem_cons hj]
  congr 1
  ·rw [List.getD_eq_getElem?_getD,List.getElem?_eq_getElem (by omega)];rfl
  ·congr 1
   rw [List.getD_eq_getElem?_getD,List.getElem?_eq_getElem hj];rfl
 have e2:swp m j=m.take j++m.getD (j+1) 0 :: m.getD j 0 :: m.drop (j+2):=by
  unfold swp
  generalize m.getD j 0=x at *
  generalize m.getD (j+1) 0=y at *
  have hl:(m.take j).length=j:=by rw [List.length_take];omega
  conv=>lhs;rw [e]
  rw [List.set_append_right _ _ (by omega),hl,show j+1-j=1 by omega,List.set_append_right _ _ (by omega),hl,Nat.sub_self]
  rfl
 rw [e2]
 conv=>rhs;rw [e]
 exact List.Perm.append_left _ (List.Perm.swap ..)
theorem Srt.swap {m:List Int} {i j:Nat} (h:Srt m i (j+1)) (hj:j+1≤i) (hi:i<m.length) (hlt:m.getD (j+1) 0<m.getD j 0):Srt (swp m j) i j:=by
 intro a b hab hb hne
 rw [swp_get (by omega),swp_get (by omega),if_neg hne]
 by_cases b1:b=j+1
 ·subst b1
  rw [if_pos rfl]
  by_cases a1:a=j
  ·rw [if_pos a1];omega
  ·rw [if_neg a1,if_neg (by omega)]
   exact h a j (by omega) (by omega) (by omega)
 ·rw [if_neg b1]
  by_cases a1:a=j
  ·rw [if_pos a1];exact h (j+1) b (by omega) hb b1
  ·rw [if_neg a1]
   by_cases a2:a=j+1
   ·rw [if_pos a2];exact h j b (by omega) hb b1
   ·rw [if_neg a2];exact h a b hab hb b1
theorem Srt.done {m:List Int} {i j:Nat} (h:Srt m i j) (hj:j=0 ∨ m.getD (j-1) 0≤m.getD j 0) (hi:j≤i):∀ a b,a<b→b≤i→m.getD a 0≤m.getD b 0:=fun a b hab hb=>by
 by_cases e:b=j
 ·subst e
  rcases hj with hj|hj
  ·omega
  ·by_cases e2:a=b-1
   ·rw [e2];exact hj
   ·exact Int.le_trans (h a (b-1) (by omega) (by omega) (by omega)) hj
 ·exact h a b hab hb e
abbrev srB (m:List Int) (e:TypeId) (ver:Nat):ABlk:=⟨.cells (ints m) e true false,ver⟩
def srtL (l:List Int):List Int:=l.mergeSort fun a b=>decide (a≤b)
theorem srtL_perm {l:List Int}:(srtL l).Perm l:=List.mergeSort_perm ..
theorem srtL_sorted {l:List Int}:(srtL l).Pairwise (·≤·):=by
 have:=List.pairwise_mergeSort (le:=fun a b:Int=>decide (a≤b)) (fun a b c h1 h2=>by simp only [decide_eq_true_eq] at *;omega) (fun a b=>by simp only [Bool.or_eq_true,decide_eq_true_eq];omega) l
 exact this.imp fun h=>of_decide_eq_true h
theorem srtL_len {l:List Int}:(srtL l).length=l.length:=srtL_perm.length_eq
theorem srtL_eq {l m:List Int} (hp:m.Perm l) (hs:m.Pairwise (·≤·)):m=srtL l :=
 (hp.trans srtL_perm.symm).eq_of_pairwise (fun a b _ _ h1 h2=>Int.le_antisymm h1 h2) hs srtL_sorted
theorem sorted_of {m:List Int} (h:∀ a b,a<b→b<m.length→m.getD a 0≤m.getD b 0):m.Pairwise (·≤·):=by
 rw [List.pairwise_iff_getElem]
 intro i j hi hj hij
 have:=h i j hij hj
 rwa [List.getD_eq_getElem?_getD,List.getD_eq_getElem?_getD,List.getElem?_eq_getElem hi,List.getElem?_eq_getElem hj] at this
set_option maxHeartbeats 400000 in
theorem run_insertion {base id ver:Nat} {e:TypeId} {h:Heap} {l:List Int} (hg:h[id]?=some (srB l e ver)) (hl:l.length≤12) :
  callL prog raw base (.fn 163 [] []) [.slice (some ⟨id,ver,0⟩) l.length l.length,.int .i64 0,.int .i64 (l.length:Int)] h=some (.tuple [],h.set id (srB (srtL l) e ver)):=by
 have gs:∀ m,(h.set id (srB m e ver))[id]?=some (srB m e ver):=fun m=>by rw [List.getElem?_set_self (lt_of_get hg)]
 have ss:∀ m m',(h.set id (srB m e ver)).set id (srB m' e ver)=h.set id (srB m' e ver):=fun m m'=>List.set_set ..
 have h0:h.set id (srB l e ver)=h:=set_id hg
 have hend:∀ {H:Heap},H=h.set id (srB (srtL l) e ver)→compact h.length (.tuple []) H=some (.tuple [],h.set id (srB (srtL l) e ver)):=by
  rintro _ rfl
  have e:h.length=(h.set id (srB (srtL l) e ver)).length:=by simp
  rw [e]
  exact compact_plain' rfl
 have hid:=lt_of_get hg
 refine callL_run func163 rfl rfl ?_
 have hsp:=@Nat.succ_ne_zero;repeat' (first|simp (disch:=first|exact dqb|fail) only [go_sem,↓reduceIte,hsp]|refine WP_drw ?_|refine cnd_intro (fun hsp=>?_) fun hsp=>?_)
 refine WP_count [(6,48)] 1 (max 1 l.length) (by omega) (fun _ i fr h'=>fr 6=.int .i64 (i:Int)∧∃ m:List Int,h'=h.set id (srB m e ver)∧m.Perm l∧∀ a b,a<b→b<i→m.getD a 0≤m.getD b 0) ?_ ?_ ?_
 ·exact ⟨by (simp (disch:=first|exact dqb|fail) only [go_sem,↓reduceIte,Int.natCast_zero];first|done|rfl),l,h0.symm,.refl _,fun a b h1 h2=>by omega⟩
 ·rintro i fr H hi0 hi hA ⟨p6,m,rfl,hm,hs⟩
  have p0:=hA 0 rfl
  have p1:=hA 1 rfl
  have p2:=hA 2 rfl
  try simp (disch:=first|exact dqb|fail) only [go_sem,↓reduceIte] at p0 p1 p2
  have hlt:((i:Int)<(l.length:Int))=True:=eq_true (by omega)
  have hml:=hm.length_eq
  have hsp:=@Nat.succ_ne_zero;repeat' (first|simp (disch:=first|exact dqb|fail) only [go_sem,↓reduceIte,hsp,p0,p1,p2,p6,hlt]|refine WP_drw ?_|refine cnd_intro (fun hsp=>?_) fun hsp=>?_)
  refine WP_cmeet [(7,48)] 0 i (Nat.zero_le _) (fun _ k fr h'=>fr 7=.int .i64 ((i-k:Nat):Int)∧∃ m:List Int,h'=h.set id (srB m e ver)∧m.Perm l∧Srt m i (i-k)) (fun fr h'=>∃ m:List Int,h'=h.set id (srB m e ver)∧m.Perm l∧∀ a b,a<b→b<i+1→m.getD a 0≤m.getD b 0) ?_ ?_ ?_ ?_
  ·exact ⟨by (simp (disch:=first|exact dqb|fail) only [go_sem,↓reduceIte,Nat.sub_zero,p6];first|done|rfl),m,rfl,hm,fun a b h1 h2 h3=>hs a b h1 (by omega)⟩
  ·rintro k fr2 H2 hk0 hk hB ⟨q7,m2,eH2,hm2,hs2⟩
   have q0:=hB 0 rfl
   have q1:=hB 1 rfl
   have q2:=hB 2 rfl
   have q6:=hB 6 rfl
   try simp (disch:=first|exact dqb|fail) only [go_sem,↓reduceIte,p0,p1,p2,p6] at q0 q1 q2 q6
   obtain ⟨j,ej⟩:∃ j,i-k=j+1:=⟨i-k-1,by omega⟩
   rw [ej] at hs2 q7
   have hml2:=hm2.length_eq
   have hgt:(((j+1:Nat):Int) > 0)=True:=eq_true (by omega)
   have ejj:((j+1:Nat):Int)-1=(j:Int):=by omega
   have g2:H2[id]?=some ⟨.cells (ints m2) e true false,ver⟩:=by rw [eH2];exact gs m2
   have hj1:j+1<l.length:=by omega
   have a1:indexAddrA prog 32 (.slice (some ⟨id,ver,0⟩) l.length l.length) (.int .i64 ((j+1:Nat):Int))=some (.ptr (some ⟨id,ver,j+1⟩)):=by
    rw [adr_sl Fc.el32 Fc.ar32 (by omega) (by omega),Int.toNat_natCast,Nat.mul_one,Nat.zero_add]
   have a2:indexAddrA prog 32 (.slice (some ⟨id,ver,0⟩) l.length l.length) (.int .i64 (j:Int))=some (.ptr (some ⟨id,ver,j⟩)):=by
    rw [adr_sl Fc.el32 Fc.ar32 (by omega) (by omega),Int.toNat_natCast,Nat.mul_one,Nat.zero_add]
   have d1:loadP prog H2 3 (.ptr (some ⟨id,ver,j+1⟩))=some (.int .i64 (m2.getD (j+1) 0)):=by
    rw [load_eq,Fc.ty3,g2];exact ldB_ints (by omega)
   have d2:loadP prog H2 3 (.ptr (some ⟨id,ver,j⟩))=some (.int .i64 (m2.getD j 0)):=by
    rw [load_eq,Fc.ty3,g2];exact ldB_ints (by omega)
   by_cases c1:m2.getD (j+1) 0<m2.getD j 0
   ·have t1:(m2.getD (j+1) 0<m2.getD j 0)=True:=eq_true c1
    have st1:∀ {K:ABlk→Heap},stQ h.length id (some ⟨.cells (ints m2) e true false,ver⟩) ver (j+1) [.int .i64 (m2.getD j 0)] K=some (K ⟨.cells (ints (m2.set (j+1) (m2.getD j 0))) e true false,ver⟩):=fun {K}=>stQ_ints (by omega)
    have st2:∀ {K:ABlk→Heap},stQ h.length id (some ⟨.cells (ints (m2.set (j+1) (m2.getD j 0))) e true false,ver⟩) ver j [.int .i64 (m2.getD (j+1) 0)] K=some (K ⟨.cells (ints (swp m2 j)) e true false,ver⟩):=fun {K}=>stQ_ints (by simp;omega)
    obtain ⟨H3,eH3⟩:∃ H3,H3=H2.set id ⟨.cells (ints (m2.set (j+1) (m2.getD j 0))) e true false,ver⟩:=⟨_,rfl⟩
    have g3:H3[id]?=some ⟨.cells (ints (m2.set (j+1) (m2.getD j 0))) e true false,ver⟩:=by rw [eH3,List.getElem?_set_self (lt_of_get g2)]
    have hsp:=@Nat.succ_ne_zero;repeat' (first|simp (disch:=first|exact dqb|fail) only [go_sem,↓reduceIte,hsp,q0,q1,q2,q6,q7,p0,p1,p2,p6,hgt,ejj,a1,a2,d1,d2,run_less,t1,g2,st1,← eH3,g3,st2]|refine WP_drw ?_|refine cnd_intro (fun hsp=>?_) fun hsp=>?_)
    refine ⟨agq,by omega,swp m2 j,by rw [eH3,eH2,List.set_set,List.set_set],(swp_perm (by omega)).trans hm2,?_⟩
    rw [show i-(k+1)=j by omega]
    exact hs2.swap (by omega) (by omega) c1
   ·have t1:(m2.getD (j+1) 0<m2.getD j 0)=False:=eq_false c1
    have hsp:=@Nat.succ_ne_zero;repeat' (first|simp (disch:=first|exact dqb|fail) only [go_sem,↓reduceIte,hsp,q0,q1,q2,q6,q7,p0,p1,p2,p6,hgt,ejj,a1,a2,d1,d2,run_less,t1]|refine WP_drw ?_|refine cnd_intro (fun hsp=>?_) fun hsp=>?_)
    refine ⟨agq,m2,eH2,hm2,fun a b h1 h2=>hs2.done (.inr (by rw [Nat.add_sub_cancel];omega)) (by omega) a b h1 (by omega)⟩
  ·rintro fr2 H2 hB ⟨q7,m2,rfl,hm2,hs2⟩
   have q0:=hB 0 rfl
   have q1:=hB 1 rfl
   have q2:=hB 2 rfl
   have q6:=hB 6 rfl
   try simp (disch:=first|exact dqb|fail) only [go_sem,↓reduceIte,p0,p1,p2,p6] at q0 q1 q2 q6
   rw [Nat.sub_self] at q7 hs2
   have t0:((0:Int) > 0)=False:=eq_false (by omega)
   have t00:(((0:Nat):Int) > 0)=False:=eq_false (by omega)
   have hsp:=@Nat.succ_ne_zero;repeat' (first|simp (disch:=first|exact dqb|fail) only [go_sem,↓reduceIte,hsp,q0,q1,q2,q6,q7,p0,p1,p2,p6,t0,t00]|refine WP_drw ?_|refine cnd_intro (fun hsp=>?_) fun hsp=>?_)
   exact ⟨agq,m2,rfl,hm2,fun a b h1 h2=>hs2.done (.inl rfl) (by omega) a b h1 (by omega)⟩
  ·rintro fr2 H2 hB ⟨m2,rfl,hm2,hs2⟩
   have q0:=hB 0 rfl
   have q1:=hB 1 rfl
   have q2:=hB 2 rfl
   have q6:=hB 6 rfl
   try simp (disch:=first|exact dqb|fail) only [go_sem,↓reduceIte,p0,p1,p2,p6] at q0 q1 q2 q6
   have hsp:=@Nat.succ_ne_zero;repeat' (first|simp (disch:=first|exact dqb|fail) only [go_sem,↓reduceIte,hsp,q0,q1,q2,q6,p0,p1,p2,p6]|refine WP_drw ?_|refine cnd_intro (fun hsp=>?_) fun hsp=>?_)
   exact ⟨agq,by omega,m2,rfl,hm2,hs2⟩
 ·rintro fr H hA ⟨p6,m,rfl,hm,hs⟩
  have p0:=hA 0 rfl
  have p1:=hA 1 rfl
  have p2:=hA 2 rfl
  try simp (disch:=first|exact dqb|fail) only [go_sem,↓reduceIte] at p0 p1 p2
  have hlt:(((max 1 l.length:Nat):Int)<(l.length:Int))=False:=eq_false (by omega)
  have hml:=hm.length_eq
  have hsp:=@Nat.succ_ne_zero;repeat' (first|simp (disch:=first|exact dqb|fail) only [go_sem,↓reduceIte,hsp,p0,p1,p2,p6,hlt]|refine WP_drw ?_|refine cnd_intro (fun hsp=>?_) fun hsp=>?_)
  refine hend ?_
  rw [srtL_eq hm (sorted_of fun a b h1 h2=>hs a b h1 (by omega))]
theorem run_pdq {base id ver k:Nat} {e:TypeId} {h:Heap} {l:List Int} (hg:h[id]?=some (srB l e ver)) (hl:l.length≤12) :
  callL prog raw base (.fn 161 [] []) [.slice (some ⟨id,ver,0⟩) l.length l.length,.int .i64 0,.int .i64 (l.length:Int),.int .i64 (k:Int)] h=some (.tuple [],h.set id (srB (srtL l) e ver)):=by
 have hend:∀ {H:Heap},H=h.set id (srB (srtL l) e ver)→compact h.length (.tuple []) H=some (.tuple [],h.set id (srB (srtL l) e ver)):=by
  rintro _ rfl
  have e:h.length=(h.set id (srB (srtL l) e ver)).length:=by simp
  rw [e]
  exact compact_plain' rfl
 have hlt:((l.length:Int)-0≤12)=True:=eq_true (by omega)
 have hlt2:((l.length:Int)≤12)=True:=eq_true (by omega)
 have hi:=fun base=>run_insertion (base:=base) hg hl
 refine callL_run func161 rfl rfl ?_
 have hsp:=@Nat.succ_ne_zero;repeat' (first|simp (disch:=first|exact dqb|fail) only [go_sem,↓reduceIte,hsp]|refine WP_drw ?_|refine cnd_intro (fun hsp=>?_) fun hsp=>?_)
 rw [WP_loop1]
 have hsp:=@Nat.succ_ne_zero;repeat' (first|simp (disch:=first|exact dqb|fail) only [go_sem,↓reduceIte,hsp,hlt,hlt2,hi,Int.sub_zero]|refine WP_drw ?_|refine cnd_intro (fun hsp=>?_) fun hsp=>?_)
 exact hend rfl
theorem run_sort {base id ver:Nat} {h:Heap} {l:List Int} (hg:h[id]?=some (srB l 3 ver)) (hl:l.length≤12) :
  callL prog raw base (.fn 149 [] []) [.slice (some ⟨id,ver,0⟩) l.length l.length] h=some (.tuple [],h.set id (srB (srtL l) 3 ver)):=by
 have hend:∀ {H:Heap},H=h.set id (srB (srtL l) 3 ver)→compact h.length (.tuple []) H=some (.tuple [],h.set id (srB (srtL l) 3 ver)):=by
  rintro _ rfl
  have e:h.length=(h.set id (srB (srtL l) 3 ver)).length:=by simp
  rw [e]
  exact compact_plain' rfl
 have c1:convA prog 163 3 (.int .i64 (l.length:Int))=some (.int .u64 (l.length:Int)):=by
  simp only [convA,underlying3,Fc.ik163,wrapU]
  rw [Nat.mod_eq_of_lt (by omega)]
 have e1:=fun base=>run_len (base:=base) (h:=h) hl
 have e2:=fun base=>run_pdq (base:=base) (k:=lenT l.length) hg hl
 refine callL_run func149 rfl rfl ?_
 have hsp:=@Nat.succ_ne_zero;repeat' (first|simp (disch:=first|exact dqb|fail) only [go_sem,↓reduceIte,hsp,c1,e1,e2]|refine WP_drw ?_|refine cnd_intro (fun hsp=>?_) fun hsp=>?_)
 exact hend rfl
end Go.AM
namespace Go.AM
theorem splice_mid:∀ (vs pre c d:List AVal),c.length=vs.length→splice (pre++c++d) pre.length vs=pre++vs++d
 | [],pre,c,d,h=>by rw [List.eq_nil_of_length_eq_zero h];rfl
 | v :: vs,pre,[],d,h=>by simp at h
 | v :: vs,pre,x :: c,d,h=>by
  have:=splice_mid vs (pre++[v]) c d (by simpa using h)
  rw [splice]
  rw [show (pre++x :: c++d).set pre.length v=pre++[v]++c++d by simp]
  rw [show pre.length+1=(pre++[v]).length by simp,this]
  simp
theorem stQ_rowE {α:Type} {E:Enc α} {e:TypeId} {l:List α} {i base id ver:Nat} {x:α} {K:ABlk→Heap} (hi:i<l.length) (hs:(E.cells x).all AVal.scalar=true) (hb:base≤id) :
  stQ base id (some (rowE E e l ver)) ver (i * E.z) (E.cells x) K=some (K (rowE E e (l.set i x) ver)):=by
 have hle:i * E.z+E.z≤l.length * E.z:=by rw [← Nat.succ_mul];exact Nat.mul_le_mul_right _ hi
 have e1:flat E l=(flat E l).take (i * E.z)++((flat E l).drop (i * E.z)).take E.z++(flat E l).drop ((i+1) * E.z):=by
  rw [List.append_assoc,Nat.succ_mul,← List.drop_drop,List.take_append_drop,List.take_append_drop]
 have hl:((flat E l).take (i * E.z)).length=i * E.z:=by rw [List.length_take,flat_len];omega
 have key:splice (flat E l) (i * E.z) (E.cells x)=flat E (l.set i x):=by
  rw [flat_set E hi]
  have:=splice_mid (E.cells x) ((flat E l).take (i * E.z)) (((flat E l).drop (i * E.z)).take E.z) ((flat E l).drop ((i+1) * E.z)) (by rw [E.len,List.length_take,List.length_drop,flat_len];omega)
  rwa [hl,← e1] at this
 unfold rowE
 rw [stQ_own hb (by rw [E.len,flat_len];exact hle) hs,key]
theorem stQ_cellE {α:Type} {E:Enc α} {e:TypeId} {l:List α} {i o base id ver:Nat} {x y:α} {a:AVal} {K:ABlk→Heap} (hx:l[i]?=some x) (ho:o<E.z) (hc:(E.cells x).set o a=E.cells y) (ha:a.scalar=true) (hb:base≤id) :
  stQ base id (some (rowE E e l ver)) ver (i * E.z+o) [a] K=some (K (rowE E e (l.set i y) ver)):=by
 have hi:=(List.getElem?_eq_some_iff.1 hx).1
 have hle:i * E.z+E.z≤l.length * E.z:=by rw [← Nat.succ_mul];exact Nat.mul_le_mul_right _ hi
 have e1:flat E l=(flat E l).take (i * E.z)++E.cells x++(flat E l).drop ((i+1) * E.z):=by
  rw [← flat_get E hx,List.append_assoc,Nat.succ_mul,← List.drop_drop,List.take_append_drop,List.take_append_drop]
 have hl:((flat E l).take (i * E.z)).length=i * E.z:=by rw [List.length_take,flat_len];omega
 have key:(flat E l).set (i * E.z+o) a=flat E (l.set i y):=by
  rw [flat_set E hi,← hc]
  conv=>lhs;rw [e1]
  rw [List.append_assoc,List.set_append_right _ _ (by omega),hl,Nat.add_sub_cancel_left,List.set_append_left _ _ (by rw [E.len];exact ho),List.append_assoc]
 unfold rowE
 rw [stQ_own hb (by rw [flat_len,List.length_cons,List.length_nil];omega) (by simp [ha])]
 show some (K ⟨.cells ((flat E l).set (i * E.z+o) a) e true false,ver⟩)=_
 rw [key]
end Go.AM
namespace Go.AM
open Go.Proofs.Tryz
attribute [-go_sem] put_ne put_same
attribute [local go_sem ↓] put_if
attribute [-go_sem] bin_shr bin_mul bin_add
section
variable {n:Nat}
theorem andM {t:TypeId} (hn:n<4294967296):binA prog .and t (.int .u64 (n:Int)) (.int .u64 4294967295)=some (.int .u64 (n:Int)):=by
 have e:BitVec.ofInt 64 (n:Int) &&& BitVec.ofInt 64 4294967295=BitVec.ofNat 64 n:=by
  apply BitVec.eq_of_toNat_eq
  have h2:n &&& 4294967295=n % 4294967296:=Nat.and_two_pow_sub_one_eq_mod n 32
  simp [BitVec.toNat_and,BitVec.toNat_ofInt]
  have h4:(n:Int) % 18446744073709551616=n:=Int.emod_eq_of_lt (by omega) (by omega)
  rw [Nat.mod_eq_of_lt (by omega),h2,Nat.mod_eq_of_lt (by omega)]
 show some (AVal.int .u64 (IntKind.u64.wrap ((BitVec.ofInt 64 (n:Int) &&& BitVec.ofInt 64 4294967295).toNat:Int)))=_
 rw [e,BitVec.toNat_ofNat,Nat.mod_eq_of_lt (by omega),wrapU,Nat.mod_eq_of_lt (by omega)]
theorem shrM {t:TypeId} (hn:n<4294967296):binA prog .shr t (.int .u64 (n:Int)) (.int .u64 32)=some (.int .u64 0):=by
 have:=shrU (t:=t) (a:=n) (b:=32) (by omega)
 rw [Nat.div_eq_of_lt (by omega)] at this
 exact this
theorem mulM {t:TypeId} (hn:n<4294967296):binA prog .mul t (.int .u64 1) (.int .u64 (n:Int))=some (.int .u64 (n:Int)):=by
 have:=mulU (t:=t) (a:=1) (b:=n)
 rw [Nat.one_mul,Nat.mod_eq_of_lt (by omega)] at this
 exact this
theorem mulZ {t:TypeId}:binA prog .mul t (.int .u64 0) (.int .u64 (n:Int))=some (.int .u64 0):=by
 have:=mulU (t:=t) (a:=0) (b:=n)
 rw [Nat.zero_mul] at this
 exact this
theorem run_mul64 {base:Nat} {h:Heap} (hn:n<4294967296):callL prog raw base (.fn 160 [] []) [.int .u64 1,.int .u64 (n:Int)] h=some (.tuple [.int .u64 0,.int .u64 (n:Int)],h):=by
 have a1:=andM (n:=n) (t:=89) hn
 have a2:=shrM (n:=n) (t:=89) hn
 have a3:=mulM (n:=n) (t:=89) hn
 have a4:=mulZ (n:=n) (t:=89)
 have b1:binA prog .and 89 (.int .u64 1) (.int .u64 4294967295)=some (.int .u64 1):=andM (n:=1) (by omega)
 have b2:binA prog .shr 89 (.int .u64 1) (.int .u64 32)=some (.int .u64 0):=shrM (n:=1) (by omega)
 have b3:binA prog .and 89 (.int .u64 0) (.int .u64 4294967295)=some (.int .u64 0):=andM (n:=0) (by omega)
 have b4:binA prog .shr 89 (.int .u64 0) (.int .u64 32)=some (.int .u64 0):=shrM (n:=0) (by omega)
 have b5:binA prog .add 89 (.int .u64 0) (.int .u64 0)=some (.int .u64 0):=addU (a:=0) (b:=0)
 have b6:binA prog .mul 89 (.int .u64 1) (.int .u64 0)=some (.int .u64 0):=mulM (n:=0) (by omega)
 have b7:binA prog .mul 89 (.int .u64 0) (.int .u64 0)=some (.int .u64 0):=mulZ (n:=0)
 refine callL_run func160 rfl rfl ?_
 have hsp:=@Nat.succ_ne_zero;repeat' (first|simp (disch:=first|exact dqb|fail) only [go_sem,↓reduceIte,hsp,a1,a2,a3,a4,b1,b2,b3,b4,b5,b6,b7]|refine WP_drw ?_|refine cnd_intro (fun hsp=>?_) fun hsp=>?_)
 exact compact_plain' rfl
theorem run_mul {base:Nat} {h:Heap} (hn:n<4294967296):callL prog raw base (.fn 147 [] []) [.int .u64 1,.int .u64 (n:Int)] h=some (.tuple [.int .u64 0,.int .u64 (n:Int)],h):=by
 have a1:=fun base=>run_mul64 (base:=base) (h:=h) hn
 refine callL_run func147 rfl rfl ?_
 have hsp:=@Nat.succ_ne_zero;repeat' (first|simp (disch:=first|exact dqb|fail) only [go_sem,↓reduceIte,hsp,a1]|refine WP_drw ?_|refine cnd_intro (fun hsp=>?_) fun hsp=>?_)
 exact compact_plain' rfl
end
section
variable {α:Type} {E:Enc α} {P:Program} {t e:TypeId} {base id ver a b:Nat} {h:Heap} {l:List α} {zs:List AVal}
theorem flat_drop {i:Nat} (hi:i≤l.length):(flat E l).drop (i * E.z)=flat E (l.drop i):=by
 have h1:=flat_app E (l:=l.take i) (m:=l.drop i)
 rw [List.take_append_drop] at h1
 rw [h1,show i * E.z=(flat E (l.take i)).length by rw [flat_len,List.length_take,Nat.min_eq_left hi],List.drop_left]
theorem flat_take {i:Nat} (hi:i≤l.length):(flat E l).take (i * E.z)=flat E (l.take i):=by
 have h1:=flat_app E (l:=l.take i) (m:=l.drop i)
 rw [List.take_append_drop] at h1
 rw [h1,show i * E.z=(flat E (l.take i)).length by rw [flat_len,List.length_take,Nat.min_eq_left hi],List.take_left]
theorem stE {s:List α} (hg:h[id]?=some (rowE E e l ver)) (hs:∀ y,(E.cells y).all AVal.scalar=true) (hb:base≤id) (ha:a+s.length≤l.length) :
  storeN base h ⟨id,ver,a * E.z⟩ (flat E s)=some (h.set id (rowE E e (l.take a++s++l.drop (a+s.length)) ver)):=by
 have h1:flat E l=flat E (l.take a)++flat E ((l.drop a).take s.length)++flat E (l.drop (a+s.length)):=by
  rw [← flat_app,← flat_app]
  congr 1
  rw [List.append_assoc,← List.drop_drop,List.take_append_drop,List.take_append_drop]
 have h2:=splice_mid (flat E s) (flat E (l.take a)) (flat E ((l.drop a).take s.length)) (flat E (l.drop (a+s.length))) (by rw [flat_len,flat_len,List.length_take,List.length_drop,Nat.min_eq_left (by omega)])
 rw [← h1,← flat_app,← flat_app,show (flat E (l.take a)).length=a * E.z by rw [flat_len,List.length_take,Nat.min_eq_left (by omega)]] at h2
 have hle:a * E.z+s.length * E.z≤l.length * E.z:=by rw [← Nat.add_mul];exact Nat.mul_le_mul_right _ ha
 unfold storeN
 simp only [hg,rowE]
 rw [if_pos ⟨trivial,by rw [flat_len,flat_len];exact hle,flat_scalar hs _,.inl hb⟩,h2]
theorem ldE {m n k:Nat} (hg:h[id]?=some (rowE E e l ver)) (hb:b+m≤l.length):firstN h E.z m (.slice (some ⟨id,ver,b * E.z⟩) n k)=some (flat E ((l.drop b).take m)):=by
 have hle:b * E.z+m * E.z≤l.length * E.z:=by rw [← Nat.add_mul];exact Nat.mul_le_mul_right _ hb
 simp only [firstN,loadN,cellsAt,hg,rowE,if_true]
 rw [if_pos (by rw [flat_len];exact hle),flat_drop (by omega),flat_take (by rw [List.length_drop];omega)]
theorem cpE {n m k q:Nat} (hg:h[id]?=some (rowE E e l ver)) (hs:∀ y,(E.cells y).all AVal.scalar=true) (ht:elS P t=some (e,E.z,zs)) (hb:base≤id) (h1:a+min m n≤l.length) (h2:b+min m n≤l.length) :
  copyA P base h t (.slice (some ⟨id,ver,a * E.z⟩) n k) (.slice (some ⟨id,ver,b * E.z⟩) m q)=some (.int .i64 ((min m n:Nat):Int),h.set id (rowE E e (l.take a++(l.drop b).take (min m n)++l.drop (a+min m n)) ver)):=by
 have hl:((l.drop b).take (min m n)).length=min m n:=by rw [List.length_take,List.length_drop];omega
 have hst:=stE (base:=base) (a:=a) (s:=(l.drop b).take (min m n)) hg hs hb (by omega)
 rw [hl] at hst
 simp only [copyA,ht,lenA,ldE hg h2,hst]
theorem cpR {n k:Nat} {x:AVal} {s:List α} (hg:h[id]?=some (rowE E e l ver)) (hx:Rows E h x s) (hs:∀ y,(E.cells y).all AVal.scalar=true) (ht:elS P t=some (e,E.z,zs)) (hb:base≤id) (h1:a+s.length≤l.length) (hn:s.length≤n) :
  copyA P base h t (.slice (some ⟨id,ver,a * E.z⟩) n k) x=some (.int .i64 (s.length:Int),h.set id (rowE E e (l.take a++s++l.drop (a+s.length)) ver)):=by
 simp only [copyA,ht,hx.lenA,Nat.min_eq_left hn,hx.firstN,stE hg hs hb h1]
theorem slE_lo {n k:Nat} {lo:Int} (ht:elS P t=some (e,E.z,zs)) (ha:arT P t=none) (h0:0≤lo) (h1:lo≤n):sliceA P t (.slice (some ⟨id,ver,0⟩) n k) (some (.int .i64 lo)) none none=some (.slice (some ⟨id,ver,lo.toNat * E.z⟩) (n-lo.toNat) (k-lo.toNat)):=by
 simp only [sliceA,ha,ht,optB,boundI h0 h1]
 simp [ARef.add]
theorem slE_hi {n k:Nat} {hi:Int} (ht:elS P t=some (e,E.z,zs)) (ha:arT P t=none) (h0:0≤hi) (h1:hi≤k):sliceA P t (.slice (some ⟨id,ver,0⟩) n k) none (some (.int .i64 hi)) none=some (.slice (some ⟨id,ver,0 * E.z⟩) hi.toNat k):=by
 simp only [sliceA,ha,ht,optB,boundI h0 h1,boundI (Int.le_refl 0) (show (0:Int)≤((hi.toNat:Nat):Int) by omega)]
 simp [ARef.add]
end
theorem rep_part {α:Type} {x y:α} {n k m:Nat} (h:k+m≤n) (hm:m≤k):(List.replicate k x++List.replicate (n-k) y).take k++((List.replicate k x++List.replicate (n-k) y).drop 0).take m++(List.replicate k x++List.replicate (n-k) y).drop (k+m)=List.replicate (k+m) x++List.replicate (n-(k+m)) y:=by
 rw [List.take_left' (by simp),List.drop_zero,List.take_append_of_le_length (by simp;omega),List.take_replicate,Nat.min_eq_left hm,List.replicate_append_replicate,← List.drop_drop,List.drop_left' (by simp),List.drop_replicate]
 congr 2
 omega
set_option maxRecDepth 100000 in
set_option maxHeartbeats 4000000 in
theorem run_repeat {base n:Nat} {h:Heap} {v:AVal} {c:Ct} (hb:base≤h.length) (hI:Rows encC h v [c]) (hn:1≤n∧n≤60) :
  Ret prog raw base (.fn 108 [] []) [v,.int .i64 (n:Int)] h (fun w H=>Ext h H∧w=.slice (some ⟨h.length,0,0⟩) n n∧H[h.length]?=some (rowE encC 57 (List.replicate n c) 0)):=by
 have o1:=hI.one
 have hln:=hI.len (P:=prog) Fc.el51
 simp only [List.length_cons,List.length_nil] at hln
 have m1:=fun base=>run_mul (base:=base) (h:=h) (n:=n) (by omega)
 have t1:((n:Int)<0)=False:=eq_false (by omega)
 have t2:((n:Int) > 9223372036854775807)=False:=eq_false (by omega)
 have t3:((0:Int) > 0)=False:=eq_false (by omega)
 have c1:convA prog 163 3 (.int .i64 1)=some (.int .u64 1):=by
  simp only [convA,underlying3,Fc.ik163];rfl
 have c2:convA prog 163 3 (.int .i64 (n:Int))=some (.int .u64 (n:Int)):=by
  simp only [convA,underlying3,Fc.ik163,wrapU]
  rw [Nat.mod_eq_of_lt (by omega)]
 have c3:convA prog 3 163 (.int .u64 (n:Int))=some (.int .i64 (n:Int)):=by
  simp only [convA,underlying163,Fc.ik3]
  rw [wrap64 (by omega) (by omega)]
 obtain ⟨z,ez⟩:∃ z:Ct,z=⟨0,0,false⟩:=⟨_,rfl⟩
 have mk:=make_full (h:=h) (n:=n) Fc.el51 (by omega) (by omega)
 have eF:∀ l,(⟨.cells (flat encC l) 57 true false,0⟩:ABlk)=rowE encC 57 l 0:=fun _=>rfl
 rw [show [AVal.int .i64 0,.int .i64 0,.bool false]=encC.cells z by rw [ez];rfl,rep_flat,eF] at mk
 have g0:(h++[rowE encC 57 (List.replicate n z) 0])[h.length]?=some (rowE encC 57 (List.replicate n z) 0):=get_eq rfl
 have cp:=cpR (P:=prog) (base:=base) (t:=51) (a:=0) (n:=n) (k:=n) g0 hI.app encC_sc Fc.el51 hb (by simp;omega) (by simp;omega)
 rw [Nat.zero_mul,set_eq rfl] at cp
 have er:(List.replicate n z).take 0++[c]++(List.replicate n z).drop (0+[c].length)=List.replicate 1 c++List.replicate (n-1) z:=by simp
 rw [er] at cp
 simp only [List.length_cons,List.length_nil] at cp
 have hnl:∀ l,lenOpA prog (h++[rowE encC 57 l 0]) 51 (.slice (some ⟨h.length,0,0⟩) n n)=some (.int .i64 (n:Int)):=fun l=>len_sl Fc.el51
 refine ret_raw func108 rfl (by kernel_rfl) ?_
 have hsp:=@Nat.succ_ne_zero;repeat' (first|simp (disch:=first|exact dqb|fail) only [go_sem,↓reduceIte,hsp,t1,hln,c1,c2,m1,t2,t3,c3,mk,cp]|refine WP_drw ?_|refine cnd_intro (fun hsp=>?_) fun hsp=>?_)
 refine WP_iter [(8,46)] (fun _ (k:Nat) fr H=>fr 8=.int .i64 (k:Int)∧H=h++[rowE encC 57 (List.replicate k c++List.replicate (n-k) z) 0]∧1≤k∧k≤n) (fun k=>n-k) 1 ?_ ?_
 ·exact ⟨by (simp (disch:=first|exact dqb|fail) only [go_sem,↓reduceIte,Int.natCast_zero];first|done|rfl),rfl,Nat.le_refl _,hn.1⟩
 ·rintro k fr H hA ⟨r8,rfl,hk1,hk2⟩
  have p4:=hA 4 rfl
  have p7:=hA 7 rfl
  try simp (disch:=first|exact dqb|fail) only [go_sem,↓reduceIte] at p4 p7
  by_cases hkn:k<n
  ·have hlt:((k:Int)<(n:Int))=True:=eq_true (by omega)
   have s1:=slE_lo (P:=prog) (E:=encC) (id:=h.length) (ver:=0) (n:=n) (k:=n) (lo:=(k:Int)) Fc.el51 Fc.ar51 (by omega) (by omega)
   have s2:=slE_hi (P:=prog) (E:=encC) (id:=h.length) (ver:=0) (n:=n) (k:=n) (hi:=(k:Int)) Fc.el51 Fc.ar51 (by omega) (by omega)
   rw [Int.toNat_natCast] at s1 s2
   obtain ⟨m,em⟩:∃ m,m=min k (n-k):=⟨_,rfl⟩
   have gk:(h++[rowE encC 57 (List.replicate k c++List.replicate (n-k) z) 0])[h.length]?=some (rowE encC 57 (List.replicate k c++List.replicate (n-k) z) 0):=get_eq rfl
   have cp2:=cpE (P:=prog) (base:=base) (t:=51) (a:=k) (b:=0) (n:=n-k) (k:=n-k) (m:=k) (q:=n) gk encC_sc Fc.el51 hb (by simp;omega) (by simp;omega)
   rw [← em,set_eq rfl,rep_part (by omega) (by omega)] at cp2
   rw [Nat.zero_mul] at s2 cp2
   have ad:binA prog .add 3 (.int .i64 (k:Int)) (.int .i64 (m:Int))=some (.int .i64 ((k+m:Nat):Int)):=by rw [bin_add,wrap64 (by omega) (by omega)];rfl
   have hsp:=@Nat.succ_ne_zero;repeat' (first|simp (disch:=first|exact dqb|fail) only [go_sem,↓reduceIte,hsp,r8,p4,p7,hnl,hlt,s1,s2,cp2,ad]|refine WP_drw ?_|refine cnd_intro (fun hsp=>?_) fun hsp=>?_)
   exact ⟨agq,k+m,⟨rfl,rfl,by omega,by omega⟩,by omega⟩
  ·have hlt:((k:Int)<(n:Int))=False:=eq_false (by omega)
   obtain rfl:k=n:=by omega
   have hsp:=@Nat.succ_ne_zero;repeat' (first|simp (disch:=first|exact dqb|fail) only [go_sem,↓reduceIte,hsp,r8,p4,p7,hnl,hlt]|refine WP_drw ?_|refine cnd_intro (fun hsp=>?_) fun hsp=>?_)
   exact ⟨.app .refl,by rw [Nat.sub_self];simp⟩
end Go.AM
namespace Go.AM
open Go.Proofs.Tryz
attribute [-go_sem] put_ne put_same
attribute [local go_sem ↓] put_if
def thV (b:Bool):AVal:=.fn (if b=true then 132 else 39) [] []
theorem run_than {base:Nat} {h:Heap} {b:Bool} {e c e' c':Int}:callL prog raw base (thV b) [.agg [.int .i64 e,.int .i64 c],.agg [.int .i64 e',.int .i64 c']] h=some (.bool (thB b (e,c) (e',c')),h):=by
 unfold thB
 cases b with
 | false =>
  show callL prog raw base (.fn 39 [] []) _ _=_
  refine callL_run func39 rfl rfl ?_
  have hsp:=@Nat.succ_ne_zero;repeat' (first|simp (disch:=first|exact dqb|fail) only [go_sem,↓reduceIte,hsp]|refine WP_drw ?_|refine cnd_intro (fun hsp=>?_) fun hsp=>?_)
  exact fB (by simp)
 | true =>
  show callL prog raw base (.fn 132 [] []) _ _=_
  refine callL_run func132 rfl rfl ?_
  by_cases c1:e > e'
  ·have t1:(e > e')=True:=eq_true c1
   have hsp:=@Nat.succ_ne_zero;repeat' (first|simp (disch:=first|exact dqb|fail) only [go_sem,↓reduceIte,hsp,t1]|refine WP_drw ?_|refine cnd_intro (fun hsp=>?_) fun hsp=>?_)
   exact fB (by simp [c1])
  ·have t1:(e > e')=False:=eq_false c1
   by_cases c2:e=e'
   ·have t2:(e=e')=True:=eq_true c2
    have hsp:=@Nat.succ_ne_zero;repeat' (first|simp (disch:=first|exact dqb|fail) only [go_sem,↓reduceIte,hsp,t1,t2]|refine WP_drw ?_|refine cnd_intro (fun hsp=>?_) fun hsp=>?_)
    exact fB (by simp [c1,c2])
   ·have t2:(e=e')=False:=eq_false c2
    have hsp:=@Nat.succ_ne_zero;repeat' (first|simp (disch:=first|exact dqb|fail) only [go_sem,↓reduceIte,hsp,t1,t2]|refine WP_drw ?_|refine cnd_intro (fun hsp=>?_) fun hsp=>?_)
    exact fB (by simp [c1,c2])
theorem thV_one {b:Bool}:One (thV b):=⟨rfl,rfl,rfl⟩
section
variable {b:Bool} {R:Rib} {x y:Nat}
abbrev bstB (l:List Int):ABlk:=⟨.cells (ints l) 165 false false,0⟩
def bsL (b:Bool) (R:Rib) (x:Nat):List Int:=lst (fun i=>if x≤i / 2 then (if i % 2=0 then (folD b R (i / 2)).e else (folD b R (i / 2)).c) else 0) 122
def bsP (b:Bool) (R:Rib) (x:Nat) (e c:Int):List Int:=lst (fun i=>if i / 2=x then (if i % 2=0 then e else c) else if x<i / 2 then (if i % 2=0 then (folD b R (i / 2)).e else (folD b R (i / 2)).c) else 0) 122
theorem bsL_len:(bsL b R x).length=122:=lst_len
theorem bsP_len {e c:Int}:(bsP b R x e c).length=122:=lst_len
theorem bsL_end:bsL b R R.L.toNat=lst (fun _=>0) 122:=lst_congr fun i _=>by
 split
 ·rename_i h;rw [folD_end h];split<;>rfl
 ·rfl
theorem bsP_set {e c e' c':Int} (hx:x<61):((bsP b R x e c).set (x * 2) e').set (x * 2+1) c'=bsP b R x e' c':=by
 unfold bsP
 rw [lst_set (by omega),lst_set (by omega)]
 refine lst_congr fun i _=>?_
 by_cases h:i / 2=x
 ·by_cases h2:i % 2=0
  ·rw [if_neg (show ¬ i=x * 2+1 by omega),if_pos (show i=x * 2 by omega),if_pos h,if_pos h2]
  ·rw [if_pos (show i=x * 2+1 by omega),if_pos h,if_neg h2]
 ·rw [if_neg (by omega),if_neg (by omega),if_neg h,if_neg h]
theorem bsL_set {e c:Int} (hx:x<61):((bsL b R (x+1)).set (x * 2) e).set (x * 2+1) c=bsP b R x e c:=by
 unfold bsP bsL
 rw [lst_set (by omega),lst_set (by omega)]
 refine lst_congr fun i _=>?_
 by_cases h:i / 2=x
 ·rw [if_pos h]
  by_cases h2:i % 2=0
  ·rw [if_neg (by omega),if_pos (by omega),if_pos h2]
  ·rw [if_pos (by omega),if_neg h2]
 ·rw [if_neg (by omega),if_neg (by omega),if_neg h]
  by_cases h3:x<i / 2
  ·rw [if_pos (by omega),if_pos h3]
  ·rw [if_neg (by omega),if_neg h3]
theorem bsP_all:bsP b R x (folD b R x).e (folD b R x).c=bsL b R x:=lst_congr fun i _=>by
 by_cases h:i / 2=x
 ·rw [if_pos h,if_pos (show x≤i / 2 by omega),h]
 ·rw [if_neg h]
  by_cases h3:x<i / 2
  ·rw [if_pos h3,if_pos (show x≤i / 2 by omega)]
  ·rw [if_neg h3,if_neg (show ¬ x≤i / 2 by omega)]
theorem bsL_e (hy:y<61) (h:x≤y):(bsL b R x).getD (y * 2) 0=(folD b R y).e:=by
 unfold bsL;rw [lst_get (by omega),show y * 2 / 2=y by omega,if_pos h,if_pos (by omega)]
theorem bsL_c (hy:y<61) (h:x≤y):(bsL b R x).getD (y * 2+1) 0=(folD b R y).c:=by
 unfold bsL;rw [lst_get (by omega),show (y * 2+1) / 2=y by omega,if_pos h,if_neg (by omega)]
theorem bsP_e {e c:Int} (hy:y<61) (h:x<y):(bsP b R x e c).getD (y * 2) 0=(folD b R y).e:=by
 unfold bsP;rw [lst_get (by omega),show y * 2 / 2=y by omega,if_neg (by omega),if_pos h,if_pos (by omega)]
theorem bsP_c {e c:Int} (hy:y<61) (h:x<y):(bsP b R x e c).getD (y * 2+1) 0=(folD b R y).c:=by
 unfold bsP;rw [lst_get (by omega),show (y * 2+1) / 2=y by omega,if_neg (by omega),if_pos h,if_neg (by omega)]
theorem bsP_xe {e c:Int} (hx:x<61):(bsP b R x e c).getD (x * 2) 0=e:=by
 unfold bsP;rw [lst_get (by omega),show x * 2 / 2=x by omega,if_pos rfl,if_pos (by omega)]
theorem bsP_xc {e c:Int} (hx:x<61):(bsP b R x e c).getD (x * 2+1) 0=c:=by
 unfold bsP;rw [lst_get (by omega),show (x * 2+1) / 2=x by omega,if_pos rfl,if_neg (by omega)]
theorem ldC2 {l:List Int} {e:TypeId} {row ro:Bool} (hl:l.length=122) (hy:y<61):ldB (some (true,2)) (some ⟨.cells (ints l) e row ro,0⟩) 0 (y * 2)=some (.agg [.int .i64 (l.getD (y * 2) 0),.int .i64 (l.getD (y * 2+1) 0)]):=by
 rw [ldB_agg (by rw [ints_length];omega)]
 congr 2
 have h1:y * 2<(ints l).length:=by rw [ints_length];omega
 have h2:y * 2+1<(ints l).length:=by rw [ints_length];omega
 rw [List.drop_eq_getElem_cons h1,List.drop_eq_getElem_cons h2]
 have g1:=ints_get (l:=l) (i:=y * 2) (by omega)
 have g2:=ints_get (l:=l) (i:=y * 2+1) (by omega)
 rw [List.getElem?_eq_getElem h1] at g1
 rw [List.getElem?_eq_getElem h2] at g2
 rw [Option.some.inj g1,Option.some.inj g2];rfl
theorem stC2 {l:List Int} {e:TypeId} {row:Bool} {base id:Nat} {p q:Int} {K:ABlk→Heap} (hl:l.length=122) (hy:y<61):stQ base id (some ⟨.cells (ints l) e row false,0⟩) 0 (y * 2) [.int .i64 p,.int .i64 q] K=some (K ⟨.cells (ints ((l.set (y * 2) p).set (y * 2+1) q)) e row false,0⟩):=by
 simp only [stQ]
 rw [if_pos ⟨trivial,by rw [ints_length];simp only [List.length_cons,List.length_nil];omega,by simp [AVal.scalar],.inr (by simp [AVal.bare])⟩]
 simp only [splice,ints_set]
def toS (b:Bool) (R:Rib) (x:Nat):List Int:=lst (fun y=>if x≤y then ((folD b R y).to:Int) else 0) R.L.toNat
def toP (b:Bool) (R:Rib) (x:Nat) (t:Int):List Int:=lst (fun y=>if y=x then t else if x<y then ((folD b R y).to:Int) else 0) R.L.toNat
theorem toP_set {t t':Int} (hx:x<R.L.toNat):(toP b R x t).set x t'=toP b R x t':=by
 unfold toP
 rw [lst_set hx]
 refine lst_congr fun i _=>?_
 split<;>rfl
theorem toS_set {t:Int} (hx:x<R.L.toNat):(toS b R (x+1)).set x t=toP b R x t:=by
 unfold toP toS
 rw [lst_set hx]
 refine lst_congr fun i _=>?_
 split
 ·rfl
 ·by_cases h3:x<i
  ·rw [if_pos (by omega),if_pos h3]
  ·rw [if_neg (by omega),if_neg h3]
theorem toP_all:toP b R x ((folD b R x).to:Int)=toS b R x:=lst_congr fun i _=>by
 by_cases h:i=x
 ·rw [if_pos h,if_pos (show x≤i by omega),h]
 ·rw [if_neg h]
  by_cases h3:x<i
  ·rw [if_pos h3,if_pos (show x≤i by omega)]
  ·rw [if_neg h3,if_neg (show ¬ x≤i by omega)]
theorem toS_end:toS b R R.L.toNat=lst (fun _=>0) R.L.toNat:=lst_congr fun i hi=>by rw [if_neg (by omega)]
theorem toS_len:(toS b R x).length=R.L.toNat:=lst_len
theorem toP_len {t:Int}:(toP b R x t).length=R.L.toNat:=lst_len
theorem toS_at (hy:y<R.L.toNat) (h:x≤y):(toS b R x).getD y 0=((folD b R y).to:Int):=by
 unfold toS;rw [lst_get hy,if_pos h]
def nxS (b:Bool) (R:Rib) (x:Nat):List Ct:=(List.range R.L.toNat).map fun y=>if x≤y then (folD b R y).nx else noC
def nxP (b:Bool) (R:Rib) (x:Nat) (c:Ct):List Ct:=(List.range R.L.toNat).map fun y=>if y=x then c else if x<y then (folD b R y).nx else noC
theorem nxP_len {c:Ct}:(nxP b R x c).length=R.L.toNat:=by simp [nxP]
theorem nxP_set {c c':Ct} (hx:x<R.L.toNat):(nxP b R x c).set x c'=nxP b R x c':=by
 refine List.ext_getElem? fun i=>?_
 rw [List.getElem?_set,nxP_len]
 unfold nxP
 by_cases hi:i<R.L.toNat
 ·rw [List.getElem?_map,List.getElem?_map,List.getElem?_range hi]
  by_cases h:x=i
  ·subst h;simp [hx]
  ·rw [if_neg h]
   simp only [Option.map_some]
   rw [if_neg (fun q:i=x=>h q.symm),if_neg (fun q:i=x=>h q.symm)]
 ·rw [List.getElem?_eq_none (by simp;omega),List.getElem?_eq_none (by simp;omega)]
  split
  ·omega
  ·rfl
theorem nxS_P:nxS b R (x+1)=nxP b R x noC:=by
 unfold nxS nxP
 refine List.map_congr_left fun i _=>?_
 by_cases h:i=x
 ·rw [if_pos h,if_neg (by omega)]
 ·rw [if_neg h]
  by_cases h3:x<i
  ·rw [if_pos (by omega),if_pos h3]
  ·rw [if_neg (by omega),if_neg h3]
theorem nxP_all:nxP b R x (folD b R x).nx=nxS b R x:=by
 unfold nxS nxP
 refine List.map_congr_left fun i _=>?_
 by_cases h:i=x
 ·rw [if_pos h,if_pos (show x≤i by omega),h]
 ·rw [if_neg h]
  by_cases h3:x<i
  ·rw [if_pos h3,if_pos (show x≤i by omega)]
  ·rw [if_neg h3,if_neg (show ¬ x≤i by omega)]
theorem nxS_end:nxS b R R.L.toNat=List.replicate R.L.toNat noC:=by
 unfold nxS
 refine List.ext_getElem? fun i=>?_
 by_cases hi:i<R.L.toNat
 ·rw [List.getElem?_map,List.getElem?_range hi,List.getElem?_replicate,if_pos hi]
  simp only [Option.map_some]
  rw [if_neg (by omega)]
 ·rw [List.getElem?_eq_none (by simp;omega),List.getElem?_eq_none (by simp;omega)]
theorem nxS_at (hy:y<R.L.toNat) (h:x≤y):(nxS b R x)[y]?=some (folD b R y).nx:=by
 unfold nxS
 rw [List.getElem?_map,List.getElem?_range hy]
 simp only [Option.map_some]
 rw [if_pos h]
end
end Go.AM
namespace Go.AM
open Go.Proofs.Tryz
attribute [-go_sem] put_ne put_same
attribute [local go_sem ↓] put_if
abbrev cslB (v:AVal):ABlk:=⟨.cells [v] 51 false false,0⟩
abbrev islB (v:AVal):ABlk:=⟨.cells [v] 32 false false,0⟩
abbrev onB (g:AVal):ABlk:=⟨.cells [g] 175 false false,0⟩
abbrev onV (d nx no ou fn tb:Nat):AVal:=.fn 110 [] [.ptr (some ⟨d,0,0⟩),.ptr (some ⟨nx,0,0⟩),.ptr (some ⟨no,0,0⟩),.ptr (some ⟨ou,0,0⟩),.ptr (some ⟨fn,0,0⟩),.ptr (some ⟨tb,0,0⟩)]
structure FolC (b:Bool) (R:Rib) (H0:Heap) (id d nx no tb r1 r2:Nat):Prop where
 dk:DskAt H0 id R
 d:H0[d]?=some (pB id)
 nx:H0[nx]?=some (cslB (.slice (some ⟨r1,0,0⟩) R.L.toNat R.L.toNat))
 r1:H0[r1]?=some (rowE encC 57 (nxS b R 0) 0)
 no:H0[no]?=some (cutB noC)
 tb:H0[tb]?=some (islB (.slice (some ⟨r2,0,0⟩) R.L.toNat R.L.toNat))
 r2:H0[r2]?=some (rowB (toS b R 0) 0)
theorem folD_nx {b:Bool} {R:Rib} {x:Nat} (hR:RibOk R) (hx:x<R.L.toNat):(folD b R x).nx=noC ∨ ((folD b R x).nx.w ≠ -1∧0≤(folD b R x).nx.w):=by
 rcases folD_is (b:=b) hR hx with q|⟨c,hc,q⟩
 ·left;rw [q]
 ·right
  have hb:=cutL_b hR hx hc
  rw [q];simp only;omega
theorem folD_to {b:Bool} {R:Rib} {x:Nat} (hR:RibOk R) (hx:x<R.L.toNat):x<(folD b R x).to∧(folD b R x).to≤R.L.toNat:=by
 rcases folD_is (b:=b) hR hx with q|⟨c,hc,q⟩
 ·rw [q];simp only;omega
 ·have hb:=(cutL_b hR hx hc).1
  rw [q];simp only;omega
theorem ldB_rowE {α:Type} {E:Enc α} {e:TypeId} {l:List α} {i ver z:Nat} {x:α} (hx:l[i]?=some x) (hz:z=E.z):ldB (some (true,z)) (some (rowE E e l ver)) ver (i * z)=some (.agg (E.cells x)):=by
 subst hz
 have hi:=(List.getElem?_eq_some_iff.1 hx).1
 have hle:i * E.z+E.z≤l.length * E.z:=by rw [← Nat.succ_mul];exact Nat.mul_le_mul_right _ hi
 unfold rowE
 rw [ldB_agg (by rw [flat_len];exact hle),flat_get E hx]
theorem bsC1 {lit:Bool} {H:Heap} {c:Ct}:bsA prog lit H 51 1 [(0,.agg [.int .i64 c.w,.int .i64 c.f,.bool c.j])]=some (.slice (some ⟨H.length,0,0⟩) 1 1,H++[rowE encC 57 [c] 0]):=by
 simp [bsA,rowOf,Fc.el51,fillA,repCells,AVal.isN,AVal.cells,splice,rowE,flat,encC]
theorem ints_rowB {H:Heap} {A n:Nat} {l:List Int} (hg:H[A]?=some (rowB l 0)) (hs:Small l) (hn:n=l.length):Ints H (.slice (some ⟨A,0,0⟩) n n) l:=by
 subst hn
 exact (Rows.own (E:=encI) (e:=3) (by rw [rowE,flat_encI];exact hg) rfl (by have:=hs.1;omega)).ints hs.2
theorem toS_small {b:Bool} {R:Rib} {x:Nat} (hR:RibOk R):Small (toS b R x):=by
 have hL:=hR.L
 refine ⟨by rw [toS_len];omega,fun y hy=>?_⟩
 unfold toS lst at hy
 obtain ⟨i,hi,rfl⟩:=List.mem_map.1 hy
 have hi:=List.mem_range.1 hi
 have:=folD_to (b:=b) hR hi
 split<;>omega
theorem stN10 {base:Nat} {l:List Oper} {s:St} {Q:AExit→St→Prop}:WP prog raw base (.region 3 l.toArray true) s Q=WPS prog raw base (.region 3 l.toArray true) s Q:=WP_stop
attribute [local go_sem ↓ 3000] stN10
set_option maxRecDepth 100000 in
set_option maxHeartbeats 4000000 in
theorem run_on {base id d nx no tb r1 r2 ou:Nat} {b:Bool} {R:Rib} {H0:Heap} (hR:RibOk R) (hC:FolC b R H0 id d nx no tb r1 r2) (hb:base≤H0.length) (hou:H0.length=ou) :
  ∀ (n x:Nat) (H:Heap) (ov:AVal) (out:List Ct),R.L.toNat≤x+n→x≤R.L.toNat→Ext H0 H→H[ou]?=some (cslB ov)→H[ou+1]?=some (onB (onV d nx no ou (ou+1) tb))→Own encC 57 (ou+2) H ov out→out.length+n≤1000 →
   Ret prog raw base (onV d nx no ou (ou+1) tb) [.int .i64 (x:Int)] H (fun w H'=>w=.tuple []∧Ext H0 H'∧H.length≤H'.length∧∃ ov',H'[ou]?=some (cslB ov')∧H'[ou+1]?=some (onB (onV d nx no ou (ou+1) tb))∧Own encC 57 (ou+2) H' ov' (out++pthL b R n x)):=by
 intro n
 induction n with
 | zero =>
  intro x H ov out hn hx xH go gf hO hol
  obtain ⟨fv,wv,gd,hF,hW⟩:=hC.dk.ext xH
  have g1:=xH.get hC.d
  have dL:=fun z=>dsk_ld0 (L:=R.L) (fv:=fv) (wv:=wv) (F:=R.F) (z:=z)
  have l1:=lt_of_get g1
  have l2:=lt_of_get gd
  have hL:=hR.L
  have t1:((x:Int)=R.L)=True:=eq_true (by omega)
  unfold pB at g1
  refine ret_raw func110 rfl (by kernel_rfl) ?_
  have hsp:=@Nat.succ_ne_zero;repeat' (first|simp (disch:=first|exact dqb|fail) only [go_sem,↓reduceIte,hsp,g1,gd,dL,t1]|refine WP_drw ?_|refine cnd_intro (fun hsp=>?_) fun hsp=>?_)
  exact ⟨xH,Nat.le_refl _,ov,go,gf,by rw [pthL,List.append_nil];exact hO⟩
 | succ n ih =>
  intro x H ov out hn hx xH go gf hO hol
  obtain ⟨fv,wv,gd,hF,hW⟩:=hC.dk.ext xH
  have g1:=xH.get hC.d
  have dL:=fun z=>dsk_ld0 (L:=R.L) (fv:=fv) (wv:=wv) (F:=R.F) (z:=z)
  have l1:=lt_of_get g1
  have l2:=lt_of_get gd
  have hL:=hR.L
  unfold pB at g1
  by_cases hxL:x=R.L.toNat
  ·have t1:((x:Int)=R.L)=True:=eq_true (by omega)
   refine ret_raw func110 rfl (by kernel_rfl) ?_
   have hsp:=@Nat.succ_ne_zero;repeat' (first|simp (disch:=first|exact dqb|fail) only [go_sem,↓reduceIte,hsp,g1,gd,dL,t1]|refine WP_drw ?_|refine cnd_intro (fun hsp=>?_) fun hsp=>?_)
   exact ⟨xH,Nat.le_refl _,ov,go,gf,by rw [pthL,if_pos hxL,List.append_nil];exact hO⟩
  ·have hxl:x<R.L.toNat:=by omega
   have t1:((x:Int)=R.L)=False:=eq_false (by omega)
   have g2:=xH.get hC.nx
   have g3:=xH.get hC.r1
   have g4:=xH.get hC.no
   have g5:=xH.get hC.tb
   have g6:=xH.get hC.r2
   have l3:=lt_of_get g2
   have l4:=lt_of_get g3
   have l5:=lt_of_get g4
   have l6:=lt_of_get g5
   have l7:=lt_of_get g6
   have lo:=lt_of_get go
   have lf:=lt_of_get gf
   have k2:=lt_of_get hC.nx
   have k3:=lt_of_get hC.r1
   have k5:=lt_of_get hC.tb
   have k6:=lt_of_get hC.r2
   have oO:=hO.one
   have hLL:R.L=(R.L.toNat:Int):=by omega
   have ht:=folD_to (b:=b) hR hxl
   have iT:=ints_rowB g6 (toS_small hR) toS_len.symm
   have tb0:∀ z,ldB (some (false,z)) (some (rowB (toS b R 0) 0)) 0 x=some (.int .i64 ((folD b R x).to:Int)):=fun z=>by rw [ldB_row (by rw [toS_len];exact hxl),toS_at hxl (Nat.zero_le _)]
   rcases folD_nx (b:=b) hR hxl with hnx|⟨hnx,hnx0⟩
   ·have ld:ldB (some (true,3)) (some (rowE encC 57 (nxS b R 0) 0)) 0 (x * 3)=some (.agg [.int .i64 (-1),.int .i64 0,.bool false]):=by
     rw [ldB_rowE (E:=encC) (z:=3) (nxS_at hxl (Nat.zero_le _)) rfl,hnx];rfl
    obtain ⟨w2,H2,e2,rfl,x2,ll2,ov2,go2,gf2,hO2⟩:=ih (folD b R x).to H ov out (by omega) ht.2 xH go gf hO (by omega)
    have ep:pthL b R (n+1) x=pthL b R n (folD b R x).to:=by rw [pthL,if_neg hxL,hnx];rfl
    unfold cslB at g2
    unfold cutB noC at g4
    unfold islB at g5
    have gf':=gf
    unfold onB onV at gf'
    unfold onV at e2
    refine ret_raw func110 rfl (by kernel_rfl) ?_
    have hsp:=@Nat.succ_ne_zero;repeat' (first|simp (disch:=first|exact dqb|fail) only [go_sem,↓reduceIte,hsp,g1,gd,dL,t1,g2,g3,g4,g5,g6,ld]|refine WP_drw ?_|refine cnd_intro (fun hsp=>?_) fun hsp=>?_)
    refine WPS_go ?_
    refine WP_wild [] (by kernel_rfl) (by kernel_rfl) (by kernel_rfl) trivial fun K hK=>?_
    iterate 6
     rw [TRS_cons]
     refine ⟨by first|(simp (disch:=first|exact dqb|fail) only [go_sem,↓reduceIte,gf',g5,g6,tb0,e2,ldsQ_cons,ldsQ_nil,grdQ_cons,grdQ_nil,if_true,Nat.reduceLeDiff];done)|exact trivial,?_⟩
     simp (disch:=first|exact dqb|fail) only [go_sem,↓reduceIte,gf',g5,g6,tb0,e2]
    rw [TRS_nil]
    refine ⟨by first|(simp (disch:=first|exact dqb|fail) only [go_sem,↓reduceIte,gf',g5,g6,tb0,e2,ldsQ_cons,ldsQ_nil,grdQ_cons,grdQ_nil,if_true,Nat.reduceLeDiff];done)|exact trivial,?_⟩
    subst hK
    have hsp:=@Nat.succ_ne_zero;repeat' (first|simp (disch:=first|exact dqb|fail) only [go_sem,↓reduceIte,hsp]|refine WP_drw ?_|refine cnd_intro (fun hsp=>?_) fun hsp=>?_)
    exact ⟨x2,ll2,ov2,go2,gf2,by rw [ep];exact hO2⟩
   ·obtain ⟨c,ec⟩:∃ c,c=(folD b R x).nx:=⟨_,rfl⟩
    rw [← ec] at hnx hnx0
    have ld:ldB (some (true,3)) (some (rowE encC 57 (nxS b R 0) 0)) 0 (x * 3)=some (.agg [.int .i64 c.w,.int .i64 c.f,.bool c.j]):=by
     rw [ldB_rowE (E:=encC) (z:=3) (nxS_at hxl (Nat.zero_le _)) rfl,← ec];rfl
    have tne:(¬ (c.w=-1∧c.f=0∧c.j=false))=True:=eq_true fun q=>hnx q.1
    obtain ⟨H1,eH1⟩:∃ H1,H1=H++[rowE encC 57 [c] 0]:=⟨_,rfl⟩
    have x1:Ext H H1:=by rw [eH1];exact .app .refl
    have bs1:=fun lit=>bsC1 (lit:=lit) (H:=H) (c:=c)
    rw [← eH1] at bs1
    have hl1:=x1.len
    obtain ⟨ov1,H2,ea,hO2,ll2,ex2,oo2,kk2⟩:=(hO.ext x1).appendRX (P:=prog) (x:=.slice (some ⟨H.length,0,0⟩) 1 1) (m:=[c]) (base:=base) (t:=51) (Rows.own (by rw [eH1];exact get_eq rfl) rfl (by simp)) Fc.el51 encC_sc (by omega) (by omega) (by simp) (by simp;omega)
    have xH2:=ex2 H0 (by omega) (xH.trans x1)
    have go2:H2[ou]?=some (cslB ov):=KeepO.box (E:=encC) (e:=57) kk2 (x1.get go)
    have gf2:H2[ou+1]?=some (onB (onV d nx no ou (ou+1) tb)):=KeepO.box (E:=encC) (e:=57) kk2 (x1.get gf)
    obtain ⟨H3,eH3⟩:∃ H3,H3=H2.set ou (cslB ov1):=⟨_,rfl⟩
    have l3':H3.length=H2.length:=by rw [eH3,List.length_set]
    have xH3:Ext H0 H3:=by rw [eH3];exact xH2.set (by omega)
    have go3:H3[ou]?=some (cslB ov1):=by rw [eH3,List.getElem?_set_self (by omega)]
    have gf3:H3[ou+1]?=some (onB (onV d nx no ou (ou+1) tb)):=by rw [eH3,List.getElem?_set_ne (by omega)];exact gf2
    have hO3:Own encC 57 (ou+2) H3 ov1 (out++[c]):=by rw [eH3];exact hO2.set (by omega)
    obtain ⟨w4,H4,e4,rfl,x4,ll4,ov4,go4,gf4,hO4⟩:=ih (folD b R x).to H3 ov1 (out++[c]) (by omega) ht.2 xH3 go3 gf3 hO3 (by simp;omega)
    have ep:pthL b R (n+1) x=[c]++pthL b R n (folD b R x).to:=by rw [pthL,if_neg hxL,← ec,if_neg hnx]
    have g23:=xH3.get hC.tb
    have g63:=xH3.get hC.r2
    have iT3:=ints_rowB g63 (toS_small hR) toS_len.symm
    have ger:H1[r1]?=some (rowE encC 57 (nxS b R 0) 0):=x1.get g3
    have go':=go
    have go2':=go2
    have gf3':=gf3
    unfold cslB at g2 go' go2' eH3
    unfold cutB noC at g4
    unfold islB at g5 g23
    unfold onB onV at gf3'
    unfold onV at e4
    refine ret_raw func110 rfl (by kernel_rfl) ?_
    have hsp:=@Nat.succ_ne_zero;repeat' (first|simp (disch:=first|exact dqb|fail) only [go_sem,↓reduceIte,hsp,g1,gd,dL,t1,g2,g3,g4,g5,g6,ld,tne,go',bs1,ea,go2',← eH3]|refine WP_drw ?_|refine cnd_intro (fun hsp=>?_) fun hsp=>?_)
    refine WPS_go ?_
    refine WP_wild [] (by kernel_rfl) (by kernel_rfl) (by kernel_rfl) trivial fun K hK=>?_
    iterate 6
     rw [TRS_cons]
     refine ⟨by first|(simp (disch:=first|exact dqb|fail) only [go_sem,↓reduceIte,gf3',g23,g63,tb0,e4,ldsQ_cons,ldsQ_nil,grdQ_cons,grdQ_nil,if_true,Nat.reduceLeDiff];done)|exact trivial,?_⟩
     simp (disch:=first|exact dqb|fail) only [go_sem,↓reduceIte,gf3',g23,g63,tb0,e4]
    rw [TRS_nil]
    refine ⟨by first|(simp (disch:=first|exact dqb|fail) only [go_sem,↓reduceIte,gf3',g23,g63,tb0,e4,ldsQ_cons,ldsQ_nil,grdQ_cons,grdQ_nil,if_true,Nat.reduceLeDiff];done)|exact trivial,?_⟩
    subst hK
    have hsp:=@Nat.succ_ne_zero;repeat' (first|simp (disch:=first|exact dqb|fail) only [go_sem,↓reduceIte,hsp]|refine WP_drw ?_|refine cnd_intro (fun hsp=>?_) fun hsp=>?_)
    exact ⟨x4,by omega,ov4,go4,gf4,by rw [ep,← List.append_assoc];exact hO4⟩
end Go.AM
