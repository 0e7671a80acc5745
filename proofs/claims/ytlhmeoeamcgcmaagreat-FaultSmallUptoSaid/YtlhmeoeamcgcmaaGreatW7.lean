/-
  Plain theory: the first ones of the best lists, in lexicographic order; sets named by bits.
-/
import Derived.Test.YtlhmeoeamcgcmaaGreatW6
set_option linter.unusedSimpArgs false
set_option linter.unusedVariables false
namespace Go.AM
def lexB:List Int→List Int→Bool
 | x :: a,y :: b=>if x=y then lexB a b else decide (x<y)
 | _,_=>false
theorem lexB_irr:∀ a:List Int,lexB a a=false
 | []=>rfl
 | x :: a=>by simp only [lexB,if_true];exact lexB_irr a
theorem lexB_trans:∀ {a b c:List Int},lexB a b=true→lexB b c=true→lexB a c=true
 | [],_,_,h,_=>by simp [lexB] at h
 | _ :: _,[],_,h,_=>by simp [lexB] at h
 | _ :: _,_ :: _,[],_,h=>by simp [lexB] at h
 | x :: a,y :: b,z :: c,h,k=>by
  simp only [lexB] at h k ⊢
  by_cases e1:x=y
  ·rw [if_pos e1] at h
   by_cases e2:y=z
   ·rw [if_pos e2] at k;rw [if_pos (by omega)];exact lexB_trans h k
   ·rw [if_neg e2] at k;rw [if_neg (by omega)];simp only [decide_eq_true_eq] at k ⊢;omega
  ·rw [if_neg e1] at h
   by_cases e2:y=z
   ·rw [if_neg (by omega)];simp only [decide_eq_true_eq] at h ⊢;omega
   ·rw [if_neg e2] at k;simp only [decide_eq_true_eq] at h k;rw [if_neg (by omega)];simp only [decide_eq_true_eq];omega
theorem lexB_app:∀ (l:List Int) {a b:List Int},lexB (l++a) (l++b)=lexB a b
 | [],_,_=>rfl
 | x :: l,a,b=>by simp only [List.cons_append,lexB,if_true];exact lexB_app l
theorem lexC_pre {of:List Int}:∀ {d:Nat} {l:List Int} {a:Nat} {x:List Int},x ∈ lexC of d l a→∃ s,x=l++s:=fun h=>by
 obtain ⟨s,_,_,h⟩:=lexC_mem.1 h;exact ⟨s,h⟩
theorem lexC_sorted {of:List Int} (ho:of.Pairwise (·<·)):∀ (d:Nat) {l:List Int} {a:Nat},(lexC of d l a).Pairwise fun x y=>lexB x y=true
 | 0,l,a=>by simp [lexC]
 | d+1,l,a=>by
  rw [lexC,List.pairwise_flatMap]
  refine ⟨fun q _=>lexC_sorted ho d,?_⟩
  refine (List.pairwise_lt_range (n:=of.length-a)).imp_of_mem fun {q r} hq hr hqr x hx y hy=>?_
  rw [List.mem_range] at hq hr
  obtain ⟨s,rfl⟩:=lexC_pre hx
  obtain ⟨u,rfl⟩:=lexC_pre hy
  rw [List.append_assoc,List.append_assoc,lexB_app]
  have hlt:=List.pairwise_iff_getElem.1 ho (a+q) (a+r) (by omega) (by omega) (by omega)
  rw [getD_at (by omega),getD_at (by omega)]
  simp only [List.singleton_append,lexB]
  rw [if_neg (by omega)]
  simpa using hlt
theorem visF_first {p:List Int→Bool} {R:List Int→List Int→Prop}:∀ {xs:List (List Int)} {o:Option (List Int)},xs.Pairwise R→(visF p xs o).1=true→∃ x,(visF p xs o).2=some x∧x ∈ xs∧p x=true∧∀ y ∈ xs,p y=true→y=x ∨ R x y
 | [],o,_,h=>by simp [visF] at h
 | x :: xs,o,hr,h=>by
  simp only [visF] at h ⊢
  by_cases c:p x=true
  ·rw [if_pos c]
   refine ⟨x,rfl,by simp,c,fun y hy _=>?_⟩
   rcases List.mem_cons.1 hy with rfl|hy
   ·exact .inl rfl
   ·exact .inr (List.rel_of_pairwise_cons hr hy)
  ·rw [if_neg c] at h ⊢
   obtain ⟨y,h1,h2,h3,h4⟩:=visF_first (List.pairwise_cons.1 hr).2 h
   refine ⟨y,h1,List.mem_cons_of_mem _ h2,h3,fun z hz hp=>?_⟩
   rcases List.mem_cons.1 hz with rfl|hz
   ·exact absurd hp c
   ·exact h4 z hz hp
theorem pckF_lex {p:List Int→Bool} {of:List Int} (ho:of.Pairwise (·<·)):∀ {n:Nat} {o:Option (List Int)} {s:List Int},s.Sublist of→p s=true→s.length≤n→s.length=(pckF p of n o).length→s=pckF p of n o ∨ lexB (pckF p of n o) s=true
 | 0,o,s,_,_,h,_=>.inl (List.eq_nil_of_length_eq_zero (by omega:s.length=0))
 | n+1,o,s,h1,h2,h3,h4=>by
  simp only [pckF] at h4 ⊢
  by_cases c:(visF p (lexC of (n+1) [] 0) o).1=true
  ·rw [if_pos c] at h4 ⊢
   obtain ⟨x,q1,q2,q3,q4⟩:=visF_first (lexC_sorted ho (n+1)) c
   obtain ⟨q5,q6⟩:=lexC_all.1 q2
   rw [q1] at h4 ⊢
   simp only [Option.getD_some] at h4 ⊢
   exact q4 s (lexC_all.2 ⟨h1,by omega⟩) h2
  ·rw [if_neg c] at h4 ⊢
   by_cases e:s.length=n+1
   ·have:=visF_none c s (lexC_all.2 ⟨h1,e⟩)
    rw [h2] at this;cases this
   ·exact pckF_lex ho h1 h2 (by omega) h4
theorem clsF_lex {L:Lom}:∀ {k m:Nat} {o:Option (List Int)} {x s:List Int},clsF L k m o=some x→(∃ s,s.Sublist (allI L)∧clsP L s=true∧m<s.length∧s.length≤m+k)→s.Sublist (allI L)→clsP L s=true→m<s.length→s.length=x.length→s=x ∨ lexB x s=true
 | 0,m,o,x,s,_,⟨u,_,_,h1,h2⟩,_,_,_,_=>by omega
 | k+1,m,o,x,s,hx,⟨u,h1,h2,h3,h4⟩,s1,s2,s3,s4=>by
  simp only [clsF] at hx
  by_cases c:(visF (clsP L) (lexC (upto L.ss.length) (m+1) [] 0) o).1=true
  ·rw [if_pos c] at hx
   obtain ⟨y,q1,q2,q3,q4⟩:=visF_first (lexC_sorted (upto_sorted _) (m+1)) c
   rw [q1] at hx
   cases hx
   obtain ⟨q5,q6⟩:=lexC_all.1 q2
   exact q4 s (lexC_all.2 ⟨s1,by omega⟩) s2
  ·rw [if_neg c] at hx
   have hno:∀ s,s.Sublist (allI L)→clsP L s=true→s.length ≠ m+1:=fun s a b e=>by
    have:=visF_none c s (lexC_all.2 ⟨a,e⟩)
    rw [b] at this
    cases this
   exact clsF_lex hx ⟨u,h1,h2,by have:=hno u h1 h2;omega,by omega⟩ s1 s2 (by have:=hno s s1 s2;omega) s4
def pickO {α:Type} (better:α→α→Bool) (p:α→Bool) (b:Option α) (x:α):Option α:=if (p x && b.all fun y=>better x y)=true then some x else b
theorem pickO_fold {α:Type} {better:α→α→Bool} (hi:∀ a,better a a=false) (ht:∀ a b c,better a b=true→better b c=true→better a c=true) {p:α→Bool}:∀ {xs:List α} {b0:Option α},
  (∀ x ∈ xs,p x=true→∃ y,xs.foldl (pickO better p) b0=some y∧better x y=false)∧(∀ y,xs.foldl (pickO better p) b0=some y→b0=some y ∨ (y ∈ xs∧p y=true))∧(∀ y0,b0=some y0→∃ y,xs.foldl (pickO better p) b0=some y∧(y=y0 ∨ better y y0=true))
 | [],b0=>⟨fun x hx=>(by cases hx),fun y h=>Or.inl h,fun y0 h=>⟨y0,h,Or.inl rfl⟩⟩
 | x :: xs,b0=>by
  obtain ⟨h1,h2,h3⟩:=pickO_fold hi ht (p:=p) (xs:=xs) (b0:=pickO better p b0 x)
  simp only [List.foldl_cons]
  have key:∀ y0,b0=some y0→∃ z,pickO better p b0 x=some z∧(z=y0 ∨ better z y0=true):=fun y0 e=>by
   unfold pickO
   split
   ·rename_i q
    rw [e] at q
    simp only [Option.all_some,Bool.and_eq_true] at q
    exact ⟨x,rfl,.inr q.2⟩
   ·exact ⟨y0,e,.inl rfl⟩
  refine ⟨fun z hz hp=>?_,fun y e=>?_,fun y0 e=>?_⟩
  ·rcases List.mem_cons.1 hz with rfl|hz
   ·by_cases q:(b0.all fun y=>better z y)=true
    ·have e:pickO better p b0 z=some z:=by unfold pickO;rw [if_pos (by rw [hp,q];rfl)]
     obtain ⟨y,e2,q2⟩:=h3 z e
     refine ⟨y,e2,?_⟩
     rcases q2 with rfl|q2
     ·exact hi y
     ·rw [Bool.eq_false_iff];intro q3;have:=ht _ _ _ q2 q3;rw [hi] at this;cases this
    ·cases b0 with
     | none=>simp at q
     | some y0 =>
      simp only [Option.all_some] at q
      have e:pickO better p (some y0) z=some y0:=by unfold pickO;rw [if_neg (by simp [q])]
      obtain ⟨y,e2,q2⟩:=h3 y0 e
      refine ⟨y,e2,?_⟩
      rcases q2 with rfl|q2
      ·exact Bool.eq_false_iff.2 q
      ·rw [Bool.eq_false_iff];intro q3;exact q (ht _ _ _ q3 q2)
   ·exact h1 z hz hp
  ·rcases h2 y e with q|q
   ·unfold pickO at q
    split at q
    ·rename_i c
     cases q
     simp only [Bool.and_eq_true] at c
     exact .inr ⟨by simp,c.1⟩
    ·exact .inl q
   ·exact .inr ⟨List.mem_cons_of_mem _ q.1,q.2⟩
  ·obtain ⟨z,e2,q⟩:=key y0 e
   obtain ⟨y,e3,q2⟩:=h3 z e2
   refine ⟨y,e3,?_⟩
   rcases q2 with rfl|q2
   ·exact q
   ·rcases q with rfl|q
    ·exact .inr q2
    ·exact .inr (ht _ _ _ q2 q)
def memS (n s:Nat):List Int:=(upto n).filter fun i=>s.testBit i.toNat
theorem memS_sub {n s:Nat}:(memS n s).Sublist (upto n):=List.filter_sublist
theorem memS_mem {n s:Nat} {x:Int}:x ∈ memS n s ↔ (0≤x∧x<(n:Int))∧s.testBit x.toNat=true:=by
 unfold memS;rw [List.mem_filter,upto_mem]
theorem memS_len {n s:Nat}:(memS n s).length≤n:=by have:=(memS_sub (n:=n) (s:=s)).length_le;rwa [upto_len] at this
theorem memS_succ {n s:Nat}:memS (n+1) s=memS n s++(if s.testBit n=true then [(n:Int)] else []):=by
 unfold memS
 rw [upto_succ,List.filter_append]
 congr 1
 simp only [List.filter_cons,List.filter_nil,Int.toNat_natCast]
theorem memS_more {s:Nat}:∀ {n k:Nat},s<2 ^ n→memS (n+k) s=memS n s
 | n,0,_=>rfl
 | n,k+1,h=>by
  rw [← Nat.add_assoc,memS_succ,memS_more h,if_neg,List.append_nil]
  rw [Nat.testBit_lt_two_pow (Nat.lt_of_lt_of_le h (Nat.pow_le_pow_right (by decide) (by omega)))]
  decide
theorem sub_one {b:List Int} {x:Int} (h:b.Sublist [x]):b=[] ∨ b=[x]:=by
 cases b with
 | nil=>exact .inl rfl
 | cons y b =>
  have h1:=h.length_le
  simp only [List.length_cons,List.length_nil] at h1
  rw [List.eq_nil_of_length_eq_zero (by omega:b.length=0)] at h ⊢
  exact .inr (h.eq_of_length rfl)
theorem memS_all:∀ {n:Nat} {l:List Int},l.Sublist (upto n)→∃ s,s<2 ^ n∧memS n s=l
 | 0,l,h=>by
  have:=h.length_le
  rw [upto_len] at this
  exact ⟨0,by decide,(List.eq_nil_of_length_eq_zero (by omega:l.length=0)).symm⟩
 | n+1,l,h=>by
  rw [upto_succ] at h
  obtain ⟨a,b,rfl,ha,hb⟩:=List.sublist_append_iff.1 h
  obtain ⟨s,hs,e⟩:=memS_all ha
  have hp:(2:Nat) ^ (n+1)=2 ^ n+2 ^ n:=by rw [Nat.pow_succ];omega
  have e2:∀ c:Nat,memS n (2 ^ n * c+s)=memS n s:=fun c=>by
   unfold memS
   refine List.filter_congr fun x hx=>?_
   rw [upto_mem] at hx
   rw [Nat.testBit_two_pow_mul_add _ hs,if_pos (by omega)]
  rcases sub_one hb with rfl|rfl
  ·refine ⟨s,by omega,?_⟩
   rw [memS_succ,e,Nat.testBit_lt_two_pow hs];simp
  ·refine ⟨2 ^ n * 1+s,by omega,?_⟩
   rw [memS_succ,e2,e,Nat.testBit_two_pow_mul_add _ hs,if_neg (Nat.lt_irrefl n),Nat.sub_self];rfl
theorem memS_zero {n:Nat}:memS n 0=[]:=by unfold memS;rw [List.filter_eq_nil_iff];simp
theorem memS_ne {n s:Nat} (h0:0<s) (h:s<2 ^ n):memS n s ≠ []:=fun e=>by
 obtain ⟨i,hi⟩:=Nat.exists_testBit_of_ne_zero (show s ≠ 0 by omega)
 have hin:i<n:=Classical.byContradiction fun q=>by
  rw [Nat.testBit_lt_two_pow (Nat.lt_of_lt_of_le h (Nat.pow_le_pow_right (by decide) (by omega)))] at hi
  cases hi
 have:(i:Int) ∈ memS n s:=memS_mem.2 ⟨⟨by omega,by omega⟩,by rw [Int.toNat_natCast];exact hi⟩
 rw [e] at this
 cases this
def btG (x y:List Int):Bool:=decide (y.length<x.length) || (decide (x.length=y.length) && lexB x y)
def btL (x y:List Int):Bool:=decide (x.length<y.length) || (decide (x.length=y.length) && lexB x y)
theorem btG_irr (a:List Int):btG a a=false:=by simp [btG,lexB_irr]
theorem btL_irr (a:List Int):btL a a=false:=by simp [btL,lexB_irr]
theorem btG_trans (a b c:List Int) (h:btG a b=true) (k:btG b c=true):btG a c=true:=by
 unfold btG at h k ⊢
 simp only [Bool.or_eq_true,Bool.and_eq_true,decide_eq_true_eq] at h k ⊢
 rcases h with h|⟨h,h2⟩<;>rcases k with k|⟨k,k2⟩
 ·left;omega
 ·left;omega
 ·left;omega
 ·exact .inr ⟨by omega,lexB_trans h2 k2⟩
theorem btL_trans (a b c:List Int) (h:btL a b=true) (k:btL b c=true):btL a c=true:=by
 unfold btL at h k ⊢
 simp only [Bool.or_eq_true,Bool.and_eq_true,decide_eq_true_eq] at h k ⊢
 rcases h with h|⟨h,h2⟩<;>rcases k with k|⟨k,k2⟩
 ·left;omega
 ·left;omega
 ·left;omega
 ·exact .inr ⟨by omega,lexB_trans h2 k2⟩
def setsR (n:Nat):Nat→List (List Int)
 | 0=>[]
 | k+1=>setsR n k++[memS n (k+1)]
theorem setsR_mem {n:Nat} {x:List Int}:∀ {k:Nat},x ∈ setsR n k ↔ ∃ s,1≤s∧s≤k∧memS n s=x
 | 0=>by
  simp only [setsR,List.not_mem_nil,false_iff]
  rintro ⟨s,h1,h2,_⟩;omega
 | k+1=>by
  rw [setsR,List.mem_append,setsR_mem,List.mem_singleton]
  constructor
  ·rintro (⟨s,h1,h2,h3⟩|rfl)
   ·exact ⟨s,h1,by omega,h3⟩
   ·exact ⟨k+1,by omega,by omega,rfl⟩
  ·rintro ⟨s,h1,h2,h3⟩
   by_cases e:s=k+1
   ·subst e;exact .inr h3.symm
   ·exact .inl ⟨s,h1,by omega,h3⟩
theorem setsR_all {n:Nat} {x:List Int}:x ∈ setsR n (2 ^ n-1) ↔ x.Sublist (upto n)∧x ≠ []:=by
 have hp:0<2 ^ n:=Nat.pow_pos (by decide)
 rw [setsR_mem]
 constructor
 ·rintro ⟨s,h1,h2,rfl⟩;exact ⟨memS_sub,memS_ne h1 (by omega)⟩
 ·rintro ⟨h1,h2⟩
  obtain ⟨s,hs,e⟩:=memS_all h1
  refine ⟨s,?_,by omega,e⟩
  cases s with
  | zero=>rw [memS_zero] at e;exact absurd e.symm h2
  | succ s=>omega
end Go.AM
