/-
  Plain: moves.
-/
import Derived.Test.YteanoaejoddnbaaGreatU14
import Derived.Test.YteanoaejoddnbaaGreatU11
set_option linter.unusedSimpArgs false
set_option linter.unusedVariables false
namespace Go.AM
def mvL (o:List Int) (f t:Nat):List Int:=(o.eraseIdx f).insertIdx t (o.getD f 0)
theorem ins_eq {α:Type} {x:α}:∀ {l:List α} {t:Nat},t≤l.length→l.insertIdx t x=l.take t++x :: l.drop t
 | l,0,_=>by simp
 | [],t+1,h=>by simp at h
 | y :: l,t+1,h=>by
  rw [List.insertIdx_succ_cons,ins_eq (by simpa using h)];rfl
theorem mvL_eq {o:List Int} {f t:Nat} (hf:f<o.length) (ht:t<o.length):mvL o f t=(o.eraseIdx f).take t++o.getD f 0 :: (o.eraseIdx f).drop t :=
 ins_eq (by rw [List.length_eraseIdx_of_lt hf];omega)
theorem er_eq {o:List Int} {f:Nat} (hf:f<o.length):o=(o.eraseIdx f).take f++o.getD f 0 :: (o.eraseIdx f).drop f:=by
 rw [List.eraseIdx_eq_take_drop_succ]
 have hl:(o.take f).length=f:=by rw [List.length_take];omega
 rw [List.take_append_of_le_length (by omega),List.take_of_length_le (by omega),List.drop_append_of_le_length (by omega),List.drop_of_length_le (by omega),List.nil_append]
 conv=>lhs;rw [← List.take_append_drop f o]
 rw [List.drop_eq_getElem_cons hf,getD_at hf]
theorem mvL_len {o:List Int} {f t:Nat} (hf:f<o.length) (ht:t<o.length):(mvL o f t).length=o.length:=by
 have h1:=List.length_eraseIdx_of_lt hf
 rw [mvL_eq hf ht,List.length_append,List.length_cons,List.length_take,List.length_drop,h1]
 omega
theorem mvL_perm {o:List Int} {f t:Nat} (hf:f<o.length) (ht:t<o.length):(mvL o f t).Perm o:=by
 rw [mvL_eq hf ht]
 conv=>rhs;rw [er_eq hf]
 refine (List.perm_middle).trans (List.Perm.trans ?_ (List.perm_middle).symm)
 rw [List.take_append_drop,List.take_append_drop]
theorem mvL_same {o:List Int} {f:Nat} (hf:f<o.length):mvL o f f=o:=by
 rw [mvL_eq hf hf]
 exact (er_eq hf).symm
theorem ord_perm {n:Nat} {o o':List Int} (h:Ord n o) (p:o'.Perm o):Ord n o':=⟨by rw [p.length_eq];exact h.1,fun x hx=>h.2.1 x (p.mem_iff.1 hx),(p.nodup_iff).2 h.2.2⟩
def makF (n:Nat):List (Int × Int)→List Int→List Int × Int
 | [],o=>(o,0)
 | m :: ms,o=>if (0≤m.1∧m.1<(n:Int))∧(0≤m.2∧m.2<(n:Int)) then makF n ms (mvL o m.1.toNat m.2.toNat) else ([],1)
theorem makF_app {n:Nat}:∀ {a b:List (Int × Int)} {o:List Int},makF n (a++b) o=if (makF n a o).2=0 then makF n b (makF n a o).1 else ([],1)
 | [],b,o=>by simp [makF]
 | m :: a,b,o=>by
  rw [List.cons_append,makF,makF]
  split
  ·exact makF_app
  ·rfl
theorem makF_ord {n:Nat}:∀ {ms:List (Int × Int)} {o:List Int},Ord n o→(∀ m ∈ ms,(0≤m.1∧m.1<(n:Int))∧(0≤m.2∧m.2<(n:Int)))→(makF n ms o).2=0∧(makF n ms o).1.Perm o
 | [],o,_,_=>⟨rfl,.refl _⟩
 | m :: ms,o,ho,h=>by
  have hm:=h m (by simp)
  rw [makF,if_pos hm]
  have hp:=mvL_perm (o:=o) (f:=m.1.toNat) (t:=m.2.toNat) (by rw [ho.1];omega) (by rw [ho.1];omega)
  have:=makF_ord (ms:=ms) (ord_perm ho hp) (fun x hx=>h x (by simp [hx]))
  exact ⟨this.1,this.2.trans hp⟩
def SubR (o s:List Int):Prop:=s.Sublist o∧s.Pairwise (·<·)
theorem upto_map {o:List Int}:(upto o.length).map (fun p=>o.getD p.toNat 0)=o:=by
 unfold upto
 have:=lst_self o
 conv=>rhs;rw [this]
 unfold lst
 rw [List.map_map]
 refine List.map_congr_left fun i _=>?_
 simp
theorem rise_sub {o l:List Int} (h:RiseP o l):SubR o (l.map fun p=>o.getD p.toNat 0):=by
 refine ⟨?_,List.pairwise_map.2 (h.1.imp fun q=>q.2)⟩
 have e:l=(upto o.length).filter fun x=>decide (x ∈ l):=by
  refine pair_ext (h.1.imp fun q=>q.1) ((upto_sorted _).filter _) fun x=>?_
  rw [List.mem_filter,upto_mem,decide_eq_true_eq]
  exact ⟨fun q=>⟨h.2 x q,q⟩,fun q=>q.2⟩
 have h1:l.Sublist (upto o.length):=by rw [e];exact List.filter_sublist
 have:=h1.map (fun p=>o.getD p.toNat 0)
 rwa [upto_map] at this
theorem sub_rise:∀ {s o:List Int},s.Sublist o→∃ l:List Nat,l.Pairwise (·<·)∧(∀ p ∈ l,p<o.length)∧s=l.map fun p=>o.getD p 0:=by
 intro s o h
 induction h with
 | slnil=>exact ⟨[],.nil,by simp,rfl⟩
 | @cons l₁ l₂ a h ih =>
  obtain ⟨l,h1,h2,h3⟩:=ih
  refine ⟨l.map (·+1),List.pairwise_map.2 (h1.imp fun h=>by omega),fun p hp=>?_,?_⟩
  ·obtain ⟨q,hq,rfl⟩:=List.mem_map.1 hp
   have:=h2 q hq
   simp;omega
  ·rw [List.map_map,h3]
   exact List.map_congr_left fun p _=>by simp
 | @cons_cons l₁ l₂ a h ih =>
  obtain ⟨l,h1,h2,h3⟩:=ih
  refine ⟨0 :: l.map (·+1),List.pairwise_cons.2 ⟨fun q hq=>?_,List.pairwise_map.2 (h1.imp fun h=>by omega)⟩,fun p hp=>?_,?_⟩
  ·obtain ⟨x,_,rfl⟩:=List.mem_map.1 hq
   omega
  ·rcases List.mem_cons.1 hp with e|e
   ·rw [e];simp
   ·obtain ⟨q,hq,rfl⟩:=List.mem_map.1 e
    have:=h2 q hq
    simp;omega
  ·rw [List.map_cons,List.map_map,h3]
   exact congrArg _ (List.map_congr_left fun p _=>by simp)
def lisN (o:List Int):Nat:=(riseL o).length
theorem lis_ge {o s:List Int} (h:SubR o s):s.length≤lisN o:=by
 obtain ⟨l,h1,h2,h3⟩:=sub_rise h.1
 have hr:RiseP o (l.map fun p:Nat=>(p:Int)):=by
  refine ⟨?_,fun p hp=>?_⟩
  ·have hv:=h.2
   rw [h3,List.pairwise_map] at hv
   rw [List.pairwise_map]
   exact (h1.and hv).imp fun ⟨a,b⟩=>⟨by omega,by simpa using b⟩
  ·obtain ⟨q,hq,rfl⟩:=List.mem_map.1 hp
   have:=h2 q hq
   omega
 have:=(riseL_is o).2 _ hr
 rw [List.length_map] at this
 rw [h3,List.length_map]
 unfold lisN
 omega
theorem lis_is (o:List Int):∃ s,SubR o s∧s.length=lisN o:=⟨_,rise_sub (riseL_is o).1,by rw [List.length_map];rfl⟩
theorem lis_move {o:List Int} {f t:Nat} (hf:f<o.length) (ht:t<o.length):lisN (mvL o f t)≤lisN o+1:=by
 obtain ⟨s,⟨h1,h2⟩,h3⟩:=lis_is (mvL o f t)
 obtain ⟨x,ex⟩:∃ x,x=o.getD f 0:=⟨_,rfl⟩
 have e:(mvL o f t).filter (fun y=>decide (y ≠ x))=(o.eraseIdx f).filter fun y=>decide (y ≠ x):=by
  rw [mvL_eq hf ht,List.filter_append,List.filter_cons,if_neg (by simp [ex]),← List.filter_append,List.take_append_drop]
 have h4:SubR o (s.filter fun y=>decide (y ≠ x)):=by
  refine ⟨?_,h2.filter _⟩
  have:=h1.filter (fun y=>decide (y ≠ x))
  rw [e] at this
  exact (this.trans List.filter_sublist).trans (List.eraseIdx_sublist o f)
 have h5:=lis_ge h4
 have h6:s.length≤(s.filter fun y=>decide (y ≠ x)).length+1:=by
  have hn:s.Nodup:=h2.imp fun h=>by omega
  have aux:∀ {l:List Int},l.Nodup→l.length≤(l.filter fun y=>decide (y ≠ x)).length+1:=by
   intro l
   induction l with
   | nil=>simp
   | cons y l ih =>
    intro h
    rw [List.nodup_cons] at h
    by_cases c:y=x
    ·subst c
     have:l.filter (fun z=>decide (z ≠ y))=l:=List.filter_eq_self.2 fun z hz=>decide_eq_true fun q=>h.1 (q ▸ hz)
     rw [List.filter_cons,if_neg (by simp),this,List.length_cons]
     omega
    ·have:=ih h.2
     rw [List.filter_cons,if_pos (by simp [c]),List.length_cons,List.length_cons]
     omega
  exact aux hn
 omega
theorem lis_moves {n:Nat}:∀ {ms:List (Int × Int)} {o:List Int},Ord n o→(∀ m ∈ ms,(0≤m.1∧m.1<(n:Int))∧(0≤m.2∧m.2<(n:Int)))→lisN (makF n ms o).1≤lisN o+ms.length
 | [],o,_,_=>by simp [makF]
 | m :: ms,o,ho,h=>by
  have hm:=h m (by simp)
  rw [makF,if_pos hm]
  have hf:m.1.toNat<o.length:=by rw [ho.1];omega
  have ht:m.2.toNat<o.length:=by rw [ho.1];omega
  have h1:=lis_move hf ht
  have h2:=lis_moves (ms:=ms) (ord_perm ho (mvL_perm hf ht)) (fun x hx=>h x (by simp [hx]))
  rw [List.length_cons]
  omega
theorem ord_sorted {n:Nat} {o:List Int} (h:Ord n o) (hs:o.Pairwise (·≤·)):o=upto n:=by
 have hs2:o.Pairwise (·<·):=(hs.and h.2.2).imp fun ⟨a,b⟩=>by omega
 refine pair_ext hs2 (upto_sorted n) fun x=>?_
 rw [upto_mem]
 exact ⟨fun q=>h.2.1 x q,fun q=>ord_all h q⟩
theorem lis_upto {n:Nat}:n≤lisN (upto n):=by
 have:=lis_ge (o:=upto n) (s:=upto n) ⟨List.Sublist.refl _,upto_sorted n⟩
 rwa [upto_len] at this
theorem sub_two:∀ {l:List Int} {i j:Nat} (h:i<j) (hj:j<l.length),[l[i]'(by omega),l[j]].Sublist l
 | [],i,j,_,hj=>by simp at hj
 | x :: l,0,0,h,_=>by omega
 | x :: l,0,j+1,_,hj=>by
  simp only [List.getElem_cons_zero,List.getElem_cons_succ]
  exact (List.singleton_sublist.2 (List.getElem_mem _)).cons_cons x
 | x :: l,i+1,0,h,_=>by omega
 | x :: l,i+1,j+1,h,hj=>by
  simp only [List.getElem_cons_succ]
  exact (sub_two (l:=l) (by omega) (by simpa using hj)).cons x
def mndT (rest kept:List Int) (k:Int):Nat→Nat
 | 0=>0
 | i+1=>if rest.getD i 0<k∧rest.getD i 0 ∈ kept then i+1 else mndT rest kept k i
structure MndS where
 o:List Int
 kept:List Int
 out:List (Int × Int)
def mndS (s:MndS) (k:Int):MndS :=
 if k ∈ s.kept then s else
 let f:=s.o.idxOf k
 let t:=mndT (s.o.eraseIdx f) s.kept k (s.o.eraseIdx f).length
 ⟨mvL s.o f t,s.kept++[k],if f=t then s.out else s.out++[((f:Int),(t:Int))]⟩
def mndN (s:MndS):Nat→MndS
 | 0=>s
 | k+1=>mndS (mndN s k) (k:Int)
def mndL (o:List Int):List (Int × Int):=(mndN ⟨o,(riseL o).map fun p=>o.getD p.toNat 0,[]⟩ o.length).out
theorem mndT_le {rest kept:List Int} {k:Int}:∀ i,mndT rest kept k i≤i
 | 0=>Nat.le_refl _
 | i+1=>by
  have:=mndT_le (rest:=rest) (kept:=kept) (k:=k) i
  rw [mndT];split<;>omega
theorem mndT_is {rest kept:List Int} {k:Int}:∀ i,(mndT rest kept k i=0 ∨ (0<mndT rest kept k i∧rest.getD (mndT rest kept k i-1) 0<k∧rest.getD (mndT rest kept k i-1) 0 ∈ kept))∧∀ j,mndT rest kept k i≤j→j<i→¬ (rest.getD j 0<k∧rest.getD j 0 ∈ kept)
 | 0=>⟨.inl rfl,fun j _ hj=>by omega⟩
 | i+1=>by
  have ih:=mndT_is (rest:=rest) (kept:=kept) (k:=k) i
  rw [mndT]
  split
  ·rename_i c
   exact ⟨.inr ⟨by omega,by simpa using c⟩,fun j h1 h2=>by omega⟩
  ·rename_i c
   refine ⟨ih.1,fun j h1 h2=>?_⟩
   by_cases e:j=i
   ·rw [e];exact c
   ·exact ih.2 j h1 (by omega)
structure MndI (n:Nat) (o0:List Int) (kept0:List Int) (k:Nat) (s:MndS):Prop where
 ord:Ord n s.o
 up:(s.o.filter fun x=>decide (x ∈ s.kept)).Pairwise (·<·)
 kept:∀ x,x ∈ s.kept ↔ x ∈ kept0 ∨ (0≤x∧x<(k:Int))
 rng:∀ m ∈ s.out,(0≤m.1∧m.1<(n:Int))∧(0≤m.2∧m.2<(n:Int))
 mak:makF n s.out o0=(s.o,0)
 few:s.out.length≤(upto k).countP fun x=>decide (x ∉ kept0)
theorem mndS_ok {n:Nat} {o0 kept0:List Int} {k:Nat} {s:MndS} (hk:k<n) (hk0:∀ x ∈ kept0,0≤x∧x<(n:Int)) (h:MndI n o0 kept0 k s):MndI n o0 kept0 (k+1) (mndS s (k:Int)):=by
 have cnt:(upto (k+1)).countP (fun x=>decide (x ∉ kept0))=(upto k).countP (fun x=>decide (x ∉ kept0))+if (k:Int) ∈ kept0 then 0 else 1:=by
  rw [upto_succ,List.countP_append,List.countP_cons,List.countP_nil]
  by_cases c:(k:Int) ∈ kept0<;>simp [c]
 unfold mndS
 by_cases c:(k:Int) ∈ s.kept
 ·rw [if_pos c]
  refine ⟨h.ord,h.up,fun x=>?_,h.rng,h.mak,by have:=h.few;rw [cnt];omega⟩
  rw [h.kept x]
  have c':=(h.kept _).1 c
  constructor
  ·rintro (q|q)
   ·exact .inl q
   ·exact .inr (by omega)
  ·rintro (q|q)
   ·exact .inl q
   ·by_cases e:x=(k:Int)
    ·rcases c' with r|r
     ·exact .inl (e ▸ r)
     ·omega
    ·exact .inr (by omega)
 ·rw [if_neg c]
  have hm:=ord_all h.ord (x:=(k:Int)) (by omega)
  obtain ⟨f,ef⟩:∃ f,f=s.o.idxOf (k:Int):=⟨_,rfl⟩
  have hf:f<s.o.length:=by rw [ef];exact List.idxOf_lt_length_iff.2 hm
  have hfk:s.o.getD f 0=(k:Int):=by rw [getD_at hf];subst ef;exact List.getElem_idxOf hf
  have hrl:(s.o.eraseIdx f).length=n-1:=by rw [List.length_eraseIdx_of_lt hf,h.ord.1]
  obtain ⟨t,et⟩:∃ t,t=mndT (s.o.eraseIdx f) s.kept (k:Int) (s.o.eraseIdx f).length:=⟨_,rfl⟩
  have ht:t≤n-1:=by rw [et,← hrl];exact mndT_le _
  have hol:=h.ord.1
  show MndI n o0 kept0 (k+1) ⟨mvL s.o (s.o.idxOf (k:Int)) (mndT (s.o.eraseIdx (s.o.idxOf (k:Int))) s.kept (k:Int) (s.o.eraseIdx (s.o.idxOf (k:Int))).length),s.kept++[(k:Int)],if s.o.idxOf (k:Int)=mndT (s.o.eraseIdx (s.o.idxOf (k:Int))) s.kept (k:Int) (s.o.eraseIdx (s.o.idxOf (k:Int))).length then s.out else s.out++[(((s.o.idxOf (k:Int):Nat):Int),((mndT (s.o.eraseIdx (s.o.idxOf (k:Int))) s.kept (k:Int) (s.o.eraseIdx (s.o.idxOf (k:Int))).length:Nat):Int))]⟩
  rw [← ef,← et]
  have hknew:¬ (k:Int) ∈ kept0:=fun q=>c ((h.kept _).2 (.inl q))
  have hp:=mvL_perm (o:=s.o) (f:=f) (t:=t) hf (by omega)
  have hrest:(s.o.eraseIdx f).filter (fun x=>decide (x ∈ s.kept))=s.o.filter fun x=>decide (x ∈ s.kept):=by
   conv=>rhs;rw [er_eq hf]
   rw [List.filter_append,List.filter_cons,if_neg (by rw [hfk];simp [c]),← List.filter_append,List.take_append_drop]
  have hmt:=mndT_is (rest:=s.o.eraseIdx f) (kept:=s.kept) (k:=(k:Int)) (s.o.eraseIdx f).length
  rw [← et] at hmt
  have hkr:(k:Int) ∉ s.o.eraseIdx f:=fun q=>by
   have:=h.ord.2.2
   rw [er_eq hf,hfk] at this
   have q':(k:Int) ∈ (s.o.eraseIdx f).take f++(s.o.eraseIdx f).drop f:=by rw [List.take_append_drop];exact q
   have:=(List.perm_middle (a:=(k:Int)) (l₁:=(s.o.eraseIdx f).take f) (l₂:=(s.o.eraseIdx f).drop f)).nodup_iff.1 this
   exact (List.nodup_cons.1 this).1 q'
  refine ⟨ord_perm h.ord hp,?_,fun x=>?_,?_,?_,?_⟩
  ·-- in order
   show ((mvL s.o f t).filter fun x=>decide (x ∈ s.kept++[(k:Int)])).Pairwise (·<·)
   have up:=h.up
   rw [← hrest] at up
   rw [mvL_eq hf (by omega),hfk,List.filter_append,List.filter_cons,if_pos (by simp)]
   have flt:∀ {l:List Int},(∀ x ∈ l,x ≠ (k:Int))→l.filter (fun x=>decide (x ∈ s.kept++[(k:Int)]))=l.filter fun x=>decide (x ∈ s.kept):=fun {l} hl=>List.filter_congr fun x hx=>by
    have:=hl x hx
    simp [this]
   have n1:∀ x ∈ (s.o.eraseIdx f).take t,x ≠ (k:Int):=fun x hx e=>hkr (e ▸ List.mem_of_mem_take hx)
   have n2:∀ x ∈ (s.o.eraseIdx f).drop t,x ≠ (k:Int):=fun x hx e=>hkr (e ▸ List.mem_of_mem_drop hx)
   rw [flt n1,flt n2]
   have up2:=up
   conv at up2=>rw [← List.take_append_drop t (s.o.eraseIdx f)]
   rw [List.filter_append,List.pairwise_append] at up2
   obtain ⟨u1,u2,u3⟩:=up2
   have lo:∀ x ∈ (s.o.eraseIdx f).take t,x ∈ s.kept→x<(k:Int):=fun x hx hxk=>by
    rcases hmt.1 with e|⟨e1,e2,e3⟩
    ·rw [e] at hx;simp at hx
    ·have htl:t-1<((s.o.eraseIdx f).take t).length:=by rw [List.length_take];omega
     obtain ⟨i,hi,rfl⟩:=List.getElem_of_mem hx
     have hil:i<t:=by rw [List.length_take] at hi;omega
     by_cases c1:i=t-1
     ·subst c1
      rw [List.getElem_take]
      rwa [getD_at (by omega)] at e2
     ·-- an earlier one that is kept is less
      have hsub:[((s.o.eraseIdx f).take t)[i],((s.o.eraseIdx f).take t)[t-1]].Sublist ((s.o.eraseIdx f).take t):=by
       have:=sub_two (l:=(s.o.eraseIdx f).take t) (i:=i) (j:=t-1) (by omega) htl
       exact this
      have hs2:=hsub.filter fun x=>decide (x ∈ s.kept)
      have e4:((s.o.eraseIdx f).take t)[t-1]=(s.o.eraseIdx f)[t-1]'(by omega):=List.getElem_take
      have htr:t-1<(s.o.eraseIdx f).length:=by omega
      rw [getD_at htr] at e2 e3
      have ek:((s.o.eraseIdx f).take t)[t-1] ∈ s.kept:=by rw [e4];exact e3
      rw [List.filter_cons,if_pos (by simpa using hxk),List.filter_cons,if_pos (by simpa using ek),List.filter_nil] at hs2
      have:=List.rel_of_pairwise_cons (u1.sublist hs2) (List.mem_singleton.2 rfl)
      rw [e4] at this
      omega
   have hi:∀ x ∈ (s.o.eraseIdx f).drop t,x ∈ s.kept→(k:Int)<x:=fun x hx hxk=>by
    obtain ⟨i,hi,rfl⟩:=List.getElem_of_mem hx
    rw [List.length_drop] at hi
    have:=hmt.2 (t+i) (by omega) (by omega)
    rw [List.getElem_drop] at hxk ⊢
    rw [getD_at (by omega)] at this
    have hne:=n2 _ hx
    rw [List.getElem_drop] at hne
    rcases Int.lt_trichotomy (s.o.eraseIdx f)[t+i] (k:Int) with q|q|q
    ·exact absurd ⟨q,hxk⟩ this
    ·exact absurd q hne
    ·exact q
   rw [List.pairwise_append]
   refine ⟨u1,List.pairwise_cons.2 ⟨fun x hx=>?_,u2⟩,fun a ha b hb=>?_⟩
   ·obtain ⟨h1,h2⟩:=List.mem_filter.1 hx
    exact hi x h1 (of_decide_eq_true h2)
   ·obtain ⟨h1,h2⟩:=List.mem_filter.1 ha
    rcases List.mem_cons.1 hb with e|e
    ·rw [e];exact lo a h1 (of_decide_eq_true h2)
    ·exact u3 a ha b e
  ·show x ∈ s.kept++[(k:Int)] ↔ _
   rw [List.mem_append,List.mem_singleton,h.kept x]
   constructor
   ·rintro ((q|q)|q)
    ·exact .inl q
    ·exact .inr (by omega)
    ·exact .inr (by omega)
   ·rintro (q|q)
    ·exact .inl (.inl q)
    ·by_cases e:x=(k:Int)
     ·exact .inr e
     ·exact .inl (.inr (by omega))
  ·dsimp only
   split
   ·exact h.rng
   ·intro m hm'
    rcases List.mem_append.1 hm' with q|q
    ·exact h.rng m q
    ·rw [List.mem_singleton] at q
     subst q
     exact ⟨by simp only;omega,by simp only;omega⟩
  ·dsimp only
   split
   ·rename_i e
    rw [h.mak,← e,mvL_same hf]
   ·rw [makF_app,h.mak,if_pos rfl,makF,if_pos ⟨by simp only;omega,by simp only;omega⟩]
    simp only [Int.toNat_natCast,makF]
  ·have:=h.few
   rw [cnt,if_neg hknew]
   dsimp only
   split
   ·omega
   ·rw [List.length_append,List.length_cons,List.length_nil];omega
theorem sub_filter:∀ {l s:List Int},l.Nodup→s.Sublist l→l.filter (fun x=>decide (x ∈ s))=s:=by
 intro l s hn h
 induction h with
 | slnil=>rfl
 | @cons s l a h ih =>
  rw [List.nodup_cons] at hn
  rw [List.filter_cons,if_neg (by simp;exact fun q=>hn.1 (h.subset q))]
  exact ih hn.2
 | @cons_cons s l a h ih =>
  rw [List.nodup_cons] at hn
  rw [List.filter_cons,if_pos (by simp)]
  congr 1
  have:=ih hn.2
  conv=>rhs;rw [← this]
  refine List.filter_congr fun x hx=>?_
  have:x ≠ a:=fun e=>hn.1 (e ▸ hx)
  simp [this]
theorem mndN_ok {n:Nat} {o0:List Int} (ho:Ord n o0):∀ {k},k≤n→MndI n o0 ((riseL o0).map fun p=>o0.getD p.toNat 0) k (mndN ⟨o0,(riseL o0).map fun p=>o0.getD p.toNat 0,[]⟩ k)
 | 0,_=>by
  have hs:=rise_sub (riseL_is o0).1
  refine ⟨ho,?_,fun x=>?_,by simp [mndN],rfl,by simp [mndN]⟩
  ·show (o0.filter fun x=>decide (x ∈ (riseL o0).map fun p=>o0.getD p.toNat 0)).Pairwise (·<·)
   obtain ⟨S,eS⟩:∃ S,S=(riseL o0).map fun p=>o0.getD p.toNat 0:=⟨_,rfl⟩
   rw [← eS] at hs ⊢
   have e:o0.filter (fun x=>decide (x ∈ S))=S:=sub_filter ho.2.2 hs.1
   rw [e]
   exact hs.2
  ·show x ∈ _ ↔ x ∈ _ ∨ _
   exact ⟨.inl,fun h=>h.elim id fun h=>by omega⟩
 | k+1,hk=>mndS_ok (by omega) (fun x hx=>by
   have:=(rise_sub (riseL_is o0).1).1.subset hx
   exact ho.2.1 x this) (mndN_ok ho (k:=k) (by omega))
theorem mndL_ok {n:Nat} {o:List Int} (ho:Ord n o):makF n (mndL o) o=(upto n,0)∧(∀ m ∈ mndL o,(0≤m.1∧m.1<(n:Int))∧(0≤m.2∧m.2<(n:Int)))∧(mndL o).length+lisN o=n:=by
 have h:=mndN_ok ho (Nat.le_refl n)
 obtain ⟨S,eS⟩:∃ S,S=(riseL o).map fun p=>o.getD p.toNat 0:=⟨_,rfl⟩
 have hs:=rise_sub (riseL_is o).1
 rw [← eS] at h hs
 have hl:mndL o=(mndN ⟨o,S,[]⟩ n).out:=by unfold mndL;rw [ho.1,eS]
 rw [hl]
 have hall:(mndN ⟨o,S,[]⟩ n).o.filter (fun x=>decide (x ∈ (mndN ⟨o,S,[]⟩ n).kept))=(mndN ⟨o,S,[]⟩ n).o:=List.filter_eq_self.2 fun x hx=>decide_eq_true ((h.kept x).2 (.inr (h.ord.2.1 x hx)))
 have hup:=h.up
 rw [hall] at hup
 have hfin:=ord_sorted h.ord (hup.imp fun q=>by omega)
 have hmk:=h.mak
 rw [hfin] at hmk
 refine ⟨hmk,h.rng,?_⟩
 have h1:=lis_moves ho h.rng
 rw [hmk] at h1
 dsimp only at h1
 have h2:=lis_upto (n:=n)
 have h3:=h.few
 -- the cards that are not kept
 have h4:S.length=lisN o:=by rw [eS,List.length_map];rfl
 have h5:(upto n).countP (fun x=>decide (x ∉ S))+S.length=n:=by
  have e1:=List.length_eq_countP_add_countP (l:=upto n) (fun x=>decide (x ∈ S))
  rw [upto_len] at e1
  have e2:(upto n).countP (fun x=>decide (x ∈ S))=S.length:=by
   have hSn:S.Pairwise (·<·):=hs.2
   rw [List.countP_eq_length_filter]
   have:(upto n).filter (fun x=>decide (x ∈ S))=S:=by
    refine pair_ext ((upto_sorted n).filter _) hSn fun x=>?_
    rw [List.mem_filter,upto_mem,decide_eq_true_eq]
    exact ⟨fun q=>q.2,fun q=>⟨ho.2.1 x (hs.1.subset q),q⟩⟩
   rw [this]
  have e3:(upto n).countP (fun x=>decide (x ∉ S))=(upto n).countP (fun a=>decide ¬ decide (a ∈ S)=true):=List.countP_congr fun a _=>by simp
  omega
 omega
end Go.AM
namespace Go.AM
def pickO {α:Type} (better:α→α→Bool) (p:α→Bool) (b:Option α) (x:α):Option α:=if (p x && b.all fun y=>better x y)=true then some x else b
theorem pickO_fold {α:Type} {better:α→α→Bool} (hi:∀ a,better a a=false) (ht:∀ a b c,better a b=true→better b c=true→better a c=true) {p:α→Bool}:∀ {xs:List α} {b0:Option α},
  (∀ x ∈ xs,p x=true→∃ y,xs.foldl (pickO better p) b0=some y∧better x y=false)∧(∀ y,xs.foldl (pickO better p) b0=some y→b0=some y ∨ (y ∈ xs∧p y=true))∧(∀ y0,b0=some y0→∃ y,xs.foldl (pickO better p) b0=some y∧(y=y0 ∨ better y y0=true))
 | [],b0=>⟨fun x hx=>(by cases hx),fun y h=>Or.inl h,fun y0 h=>⟨y0,h,Or.inl rfl⟩⟩
 | x :: xs,b0=>by
  obtain ⟨h1,h2,h3⟩:=pickO_fold hi ht (p:=p) (xs:=xs) (b0:=pickO better p b0 x)
  simp only [List.foldl_cons]
  have key:∀ y0,b0=some y0→∃ z,pickO better p b0 x=some z∧(z=y0 ∨ better z y0=true):=fun y0 e=>by
   unfold pickO
   split
   ·rename_i q
    rw [e] at q
    simp only [Option.all_some,Bool.and_eq_true] at q
    exact ⟨x,rfl,.inr q.2⟩
   ·exact ⟨y0,e,.inl rfl⟩
  refine ⟨fun z hz hp=>?_,fun y e=>?_,fun y0 e=>?_⟩
  ·rcases List.mem_cons.1 hz with rfl|hz
   ·by_cases q:(b0.all fun y=>better z y)=true
    ·have e:pickO better p b0 z=some z:=by unfold pickO;rw [if_pos (by rw [hp,q];rfl)]
     obtain ⟨y,e2,q2⟩:=h3 z e
     refine ⟨y,e2,?_⟩
     rcases q2 with rfl|q2
     ·exact hi y
     ·rw [Bool.eq_false_iff];intro q3;have:=ht _ _ _ q2 q3;rw [hi] at this;cases this
    ·cases b0 with
     | none=>simp at q
     | some y0 =>
      simp only [Option.all_some] at q
      have e:pickO better p (some y0) z=some y0:=by unfold pickO;rw [if_neg (by simp [q])]
      obtain ⟨y,e2,q2⟩:=h3 y0 e
      refine ⟨y,e2,?_⟩
      rcases q2 with rfl|q2
      ·exact Bool.eq_false_iff.2 q
      ·rw [Bool.eq_false_iff];intro q3;exact q (ht _ _ _ q3 q2)
   ·exact h1 z hz hp
  ·rcases h2 y e with q|q
   ·unfold pickO at q
    split at q
    ·rename_i c
     cases q
     simp only [Bool.and_eq_true] at c
     exact .inr ⟨by simp,c.1⟩
    ·exact .inl q
   ·exact .inr ⟨List.mem_cons_of_mem _ q.1,q.2⟩
  ·obtain ⟨z,e2,q⟩:=key y0 e
   obtain ⟨y,e3,q2⟩:=h3 z e2
   refine ⟨y,e3,?_⟩
   rcases q2 with rfl|q2
   ·exact q
   ·rcases q with rfl|q
    ·exact .inr q2
    ·exact .inr (ht _ _ _ q2 q)
def memS (n s:Nat):List Int:=(upto n).filter fun i=>s.testBit i.toNat
theorem memS_sub {n s:Nat}:(memS n s).Sublist (upto n):=List.filter_sublist
theorem memS_len {n s:Nat}:(memS n s).length≤n:=by have:=(memS_sub (n:=n) (s:=s)).length_le;rwa [upto_len] at this
theorem memS_succ {n s:Nat}:memS (n+1) s=memS n s++(if s.testBit n=true then [(n:Int)] else []):=by
 unfold memS
 rw [upto_succ,List.filter_append]
 congr 1
 simp only [List.filter_cons,List.filter_nil,Int.toNat_natCast]
theorem sub_one {b:List Int} {x:Int} (h:b.Sublist [x]):b=[] ∨ b=[x]:=by
 cases b with
 | nil=>exact .inl rfl
 | cons y b =>
  have h1:=h.length_le
  simp only [List.length_cons,List.length_nil] at h1
  rw [List.eq_nil_of_length_eq_zero (by omega:b.length=0)] at h ⊢
  exact .inr (h.eq_of_length rfl)
theorem memS_all:∀ {n:Nat} {l:List Int},l.Sublist (upto n)→∃ s,s<2 ^ n∧memS n s=l
 | 0,l,h=>by
  have:=h.length_le
  rw [upto_len] at this
  exact ⟨0,by decide,(List.eq_nil_of_length_eq_zero (by omega:l.length=0)).symm⟩
 | n+1,l,h=>by
  rw [upto_succ] at h
  obtain ⟨a,b,rfl,ha,hb⟩:=List.sublist_append_iff.1 h
  obtain ⟨s,hs,e⟩:=memS_all ha
  have hp:(2:Nat) ^ (n+1)=2 ^ n+2 ^ n:=by rw [Nat.pow_succ];omega
  have e2:∀ c:Nat,memS n (2 ^ n * c+s)=memS n s:=fun c=>by
   unfold memS
   refine List.filter_congr fun x hx=>?_
   rw [upto_mem] at hx
   rw [Nat.testBit_two_pow_mul_add _ hs,if_pos (by omega)]
  rcases sub_one hb with rfl|rfl
  ·refine ⟨s,by omega,?_⟩
   rw [memS_succ,e,Nat.testBit_lt_two_pow hs];simp
  ·refine ⟨2 ^ n * 1+s,by omega,?_⟩
   rw [memS_succ,e2,e,Nat.testBit_two_pow_mul_add _ hs,if_neg (Nat.lt_irrefl n),Nat.sub_self];rfl
def btG (x y:List Int):Bool:=decide (y.length<x.length) || (decide (x.length=y.length) && lexB x y)
def btL (x y:List Int):Bool:=decide (x.length<y.length) || (decide (x.length=y.length) && lexB x y)
theorem btG_irr (a:List Int):btG a a=false:=by simp [btG,lexB_irr]
theorem btL_irr (a:List Int):btL a a=false:=by simp [btL,lexB_irr]
theorem btG_trans (a b c:List Int) (h:btG a b=true) (k:btG b c=true):btG a c=true:=by
 unfold btG at h k ⊢
 simp only [Bool.or_eq_true,Bool.and_eq_true,decide_eq_true_eq] at h k ⊢
 rcases h with h|⟨h,h2⟩<;>rcases k with k|⟨k,k2⟩
 ·left;omega
 ·left;omega
 ·left;omega
 ·exact .inr ⟨by omega,lexB_trans h2 k2⟩
theorem btL_trans (a b c:List Int) (h:btL a b=true) (k:btL b c=true):btL a c=true:=by
 unfold btL at h k ⊢
 simp only [Bool.or_eq_true,Bool.and_eq_true,decide_eq_true_eq] at h k ⊢
 rcases h with h|⟨h,h2⟩<;>rcases k with k|⟨k,k2⟩
 ·left;omega
 ·left;omega
 ·left;omega
 ·exact .inr ⟨by omega,lexB_trans h2 k2⟩
def setsR (n:Nat):Nat→List (List Int)
 | 0=>[]
 | k+1=>setsR n k++[memS n (k+1)]
end Go.AM
namespace Go.AM
def lexC (of:List Int):Nat→List Int→Nat→List (List Int)
 | 0,l,_=>[l]
 | d+1,l,a=>(List.range (of.length-a)).flatMap fun q=>lexC of d (l++[of.getD (a+q) 0]) (a+q+1)
def lexP (of:List Int) (d:Nat) (l:List Int) (a j:Nat):List (List Int):=(List.range j).flatMap fun q=>lexC of d (l++[of.getD (a+q) 0]) (a+q+1)
theorem lexP_succ {of l:List Int} {d a j:Nat}:lexP of d l a (j+1)=lexP of d l a j++lexC of d (l++[of.getD (a+j) 0]) (a+j+1):=by simp [lexP,List.range_succ]
theorem lexP_pre {of l:List Int} {d a j:Nat}:∀ k,∃ s,lexP of d l a (j+k)=lexP of d l a j++s
 | 0=>⟨[],by simp⟩
 | k+1=>by
  obtain ⟨s,e⟩:=lexP_pre (of:=of) (l:=l) (d:=d) (a:=a) (j:=j) k
  exact ⟨s++lexC of d (l++[of.getD (a+(j+k)) 0]) (a+(j+k)+1),by rw [show j+(k+1)=(j+k)+1 by omega,lexP_succ,e,List.append_assoc]⟩
def visF (p:List Int→Bool):List (List Int)→Option (List Int)→Bool × Option (List Int)
 | [],o=>(false,o)
 | x :: xs,_=>if p x=true then (true,some x) else visF p xs (some x)
theorem visF_app {p:List Int→Bool} {b:List (List Int)}:∀ {a:List (List Int)} {o:Option (List Int)},visF p (a++b) o=if (visF p a o).1=true then visF p a o else visF p b (visF p a o).2
 | [],o=>by simp [visF]
 | x :: a,o=>by
  simp only [List.cons_append,visF]
  split
  ·simp
  ·exact visF_app
theorem cons_sub {y:Int} {s:List Int}:∀ {m:List Int},(y :: s).Sublist m ↔ ∃ q,q<m.length∧m.getD q 0=y∧s.Sublist (m.drop (q+1))
 | []=>by simp
 | z :: m=>by
  have ih:=cons_sub (y:=y) (s:=s) (m:=m)
  rw [List.sublist_cons_iff,ih]
  constructor
  ·rintro (⟨q,h1,h2,h3⟩|⟨r,h1,h2⟩)
   ·exact ⟨q+1,by simpa using h1,by simpa using h2,by simpa using h3⟩
   ·simp only [List.cons.injEq] at h1
    obtain ⟨rfl,rfl⟩:=h1
    exact ⟨0,by simp,by simp,by simpa using h2⟩
  ·rintro ⟨q,h1,h2,h3⟩
   cases q with
   | zero=>exact .inr ⟨s,by simp at h2;rw [h2],by simpa using h3⟩
   | succ q=>exact .inl ⟨q,by simpa using h1,by simpa using h2,by simpa using h3⟩
theorem lexC_mem {of:List Int}:∀ {d:Nat} {l:List Int} {a:Nat} {x:List Int},x ∈ lexC of d l a ↔ ∃ s,s.Sublist (of.drop a)∧s.length=d∧x=l++s
 | 0,l,a,x=>by
  rw [lexC,List.mem_singleton]
  constructor
  ·rintro rfl;exact ⟨[],List.nil_sublist _,rfl,by simp⟩
  ·rintro ⟨s,_,h,rfl⟩;rw [List.eq_nil_of_length_eq_zero h];simp
 | d+1,l,a,x=>by
  rw [lexC,List.mem_flatMap]
  constructor
  ·rintro ⟨q,hq,h⟩
   obtain ⟨s,h1,h2,h3⟩:=lexC_mem.1 h
   rw [List.mem_range] at hq
   refine ⟨of.getD (a+q) 0 :: s,cons_sub.2 ⟨q,by rw [List.length_drop];exact hq,?_,?_⟩,by simp [h2],by simp [h3]⟩
   ·rw [List.getD_eq_getElem?_getD,List.getElem?_drop,List.getD_eq_getElem?_getD]
   ·rw [List.drop_drop];rwa [show a+(q+1)=a+q+1 by omega]
  ·rintro ⟨s,h1,h2,rfl⟩
   cases s with
   | nil=>simp at h2
   | cons y s =>
    obtain ⟨q,q1,q2,q3⟩:=cons_sub.1 h1
    rw [List.length_drop] at q1
    rw [List.getD_eq_getElem?_getD,List.getElem?_drop,← List.getD_eq_getElem?_getD] at q2
    rw [List.drop_drop,show a+(q+1)=a+q+1 by omega] at q3
    refine ⟨q,List.mem_range.2 q1,lexC_mem.2 ⟨s,q3,by simpa using h2,by rw [q2];simp⟩⟩
theorem lexC_all {of x:List Int} {d:Nat}:x ∈ lexC of d [] 0 ↔ x.Sublist of∧x.length=d:=by
 rw [lexC_mem]
 simp only [List.drop_zero,List.nil_append]
 constructor
 ·rintro ⟨s,h1,h2,rfl⟩;exact ⟨h1,h2⟩
 ·rintro ⟨h1,h2⟩;exact ⟨x,h1,h2,rfl⟩
theorem visF_some {p:List Int→Bool}:∀ {xs:List (List Int)} {o:Option (List Int)},(visF p xs o).1=true→∃ x,(visF p xs o).2=some x∧x ∈ xs∧p x=true
 | [],o,h=>by simp [visF] at h
 | x :: xs,o,h=>by
  simp only [visF] at h ⊢
  by_cases c:p x=true
  ·rw [if_pos c];exact ⟨x,rfl,by simp,c⟩
  ·rw [if_neg c] at h ⊢
   obtain ⟨y,h1,h2,h3⟩:=visF_some h
   exact ⟨y,h1,List.mem_cons_of_mem _ h2,h3⟩
theorem visF_none {p:List Int→Bool}:∀ {xs:List (List Int)} {o:Option (List Int)},¬ (visF p xs o).1=true→∀ x ∈ xs,p x=false
 | [],o,h,x,hx=>by cases hx
 | y :: xs,o,h,x,hx=>by
  simp only [visF] at h
  by_cases c:p y=true
  ·rw [if_pos c] at h;exact absurd rfl h
  ·rw [if_neg c] at h
   rcases List.mem_cons.1 hx with rfl|hx
   ·simpa using c
   ·exact visF_none h x hx
theorem lexC_pre {of:List Int}:∀ {d:Nat} {l:List Int} {a:Nat} {x:List Int},x ∈ lexC of d l a→∃ s,x=l++s:=fun h=>by
 obtain ⟨s,_,_,h⟩:=lexC_mem.1 h;exact ⟨s,h⟩
theorem lexC_sorted {of:List Int} (ho:of.Pairwise (·<·)):∀ (d:Nat) {l:List Int} {a:Nat},(lexC of d l a).Pairwise fun x y=>lexB x y=true
 | 0,l,a=>by simp [lexC]
 | d+1,l,a=>by
  rw [lexC,List.pairwise_flatMap]
  refine ⟨fun q _=>lexC_sorted ho d,?_⟩
  refine (List.pairwise_lt_range (n:=of.length-a)).imp_of_mem fun {q r} hq hr hqr x hx y hy=>?_
  rw [List.mem_range] at hq hr
  obtain ⟨s,rfl⟩:=lexC_pre hx
  obtain ⟨u,rfl⟩:=lexC_pre hy
  rw [List.append_assoc,List.append_assoc,lexB_app]
  have hlt:=List.pairwise_iff_getElem.1 ho (a+q) (a+r) (by omega) (by omega) (by omega)
  rw [getD_at (by omega),getD_at (by omega)]
  simp only [List.singleton_append,lexB]
  rw [if_neg (by omega)]
  simpa using hlt
theorem visF_first {p:List Int→Bool} {R:List Int→List Int→Prop}:∀ {xs:List (List Int)} {o:Option (List Int)},xs.Pairwise R→(visF p xs o).1=true→∃ x,(visF p xs o).2=some x∧x ∈ xs∧p x=true∧∀ y ∈ xs,p y=true→y=x ∨ R x y
 | [],o,_,h=>by simp [visF] at h
 | x :: xs,o,hr,h=>by
  simp only [visF] at h ⊢
  by_cases c:p x=true
  ·rw [if_pos c]
   refine ⟨x,rfl,by simp,c,fun y hy _=>?_⟩
   rcases List.mem_cons.1 hy with rfl|hy
   ·exact .inl rfl
   ·exact .inr (List.rel_of_pairwise_cons hr hy)
  ·rw [if_neg c] at h ⊢
   obtain ⟨y,h1,h2,h3,h4⟩:=visF_first (List.pairwise_cons.1 hr).2 h
   refine ⟨y,h1,List.mem_cons_of_mem _ h2,h3,fun z hz hp=>?_⟩
   rcases List.mem_cons.1 hz with rfl|hz
   ·exact absurd hp c
   ·exact h4 z hz hp
end Go.AM
namespace Go.AM
def allS (n:Nat):List (List Int):=(List.range (n+1)).flatMap fun m=>lexC (upto n) m [] 0
theorem sub_len {n:Nat} {x:List Int} (h:x.Sublist (upto n)):x.length≤n:=by have:=h.length_le;rwa [upto_len] at this
theorem allS_mem {n:Nat} {x:List Int}:x ∈ allS n ↔ x.Sublist (upto n):=by
 unfold allS
 rw [List.mem_flatMap]
 constructor
 ·rintro ⟨m,_,h⟩;exact (lexC_all.1 h).1
 ·intro h;exact ⟨x.length,List.mem_range.2 (by have:=sub_len h;omega),lexC_all.2 ⟨h,rfl⟩⟩
theorem allS_sorted {n:Nat}:(allS n).Pairwise fun x y=>btL x y=true:=by
 unfold allS
 rw [List.pairwise_flatMap]
 refine ⟨fun m _=>?_,(List.pairwise_lt_range).imp fun {a b} hab x hx y hy=>?_⟩
 ·refine (lexC_sorted (upto_sorted n) m).imp_of_mem fun {x y} hx hy h=>?_
  unfold btL
  rw [(lexC_all.1 hx).2,(lexC_all.1 hy).2,h]
  simp
 ·unfold btL
  rw [(lexC_all.1 hx).2,(lexC_all.1 hy).2,decide_eq_true hab]
  rfl
def risB (o l:List Int):Bool:=decide (l.Pairwise fun p q=>o.getD p.toNat 0<o.getD q.toNat 0)
theorem sub_upto {n:Nat} {l:List Int}:l.Sublist (upto n) ↔ l.Pairwise (·<·)∧∀ x ∈ l,0≤x∧x<(n:Int):=by
 constructor
 ·intro h;exact ⟨(upto_sorted n).sublist h,fun x hx=>upto_mem.1 (h.subset hx)⟩
 ·rintro ⟨h1,h2⟩
  have e:l=(upto n).filter fun x=>decide (x ∈ l):=by
   refine pair_ext h1 ((upto_sorted _).filter _) fun x=>?_
   rw [List.mem_filter,upto_mem,decide_eq_true_eq]
   exact ⟨fun q=>⟨h2 x q,q⟩,fun q=>q.2⟩
  rw [e];exact List.filter_sublist
theorem riseP_iff {o l:List Int}:RiseP o l ↔ l.Sublist (upto o.length)∧risB o l=true:=by
 unfold RiseP rsR risB
 rw [sub_upto,decide_eq_true_eq]
 constructor
 ·rintro ⟨h1,h2⟩;exact ⟨⟨h1.imp fun q=>q.1,h2⟩,h1.imp fun q=>q.2⟩
 ·rintro ⟨⟨h1,h2⟩,h3⟩;exact ⟨h1.and h3,h2⟩
def rseR (o:List Int):Nat→List Int
 | 0=>[]
 | s+1=>if (risB o (memS o.length s) && btG (memS o.length s) (rseR o s))=true then memS o.length s else rseR o s
theorem rseR_fold {o:List Int}:∀ s,some (rseR o s)=((List.range s).map (memS o.length)).foldl (pickO btG (risB o)) (some [])
 | 0=>rfl
 | s+1=>by
  rw [List.range_succ,List.map_append,List.foldl_append,← rseR_fold s]
  simp only [List.map_cons,List.map_nil,List.foldl_cons,List.foldl_nil,pickO,Option.all_some]
  rw [rseR]
  split<;>rfl
theorem rseR_is (o:List Int):IsRise o (rseR o (2 ^ o.length)):=by
 obtain ⟨h1,h2,h3⟩:=pickO_fold btG_irr btG_trans (p:=risB o) (xs:=(List.range (2 ^ o.length)).map (memS o.length)) (b0:=some [])
 rw [← rseR_fold] at h1 h2 h3
 have hy:RiseP o (rseR o (2 ^ o.length)):=by
  rcases h2 _ rfl with e|⟨e,f⟩
  ·simp only [Option.some.injEq] at e
   rw [← e];exact ⟨.nil,by simp⟩
  ·obtain ⟨s,_,e'⟩:=List.mem_map.1 e
   rw [riseP_iff,← e']
   exact ⟨memS_sub,by rw [e'];exact f⟩
 refine ⟨hy,fun z hz=>?_⟩
 obtain ⟨a,b⟩:=riseP_iff.1 hz
 obtain ⟨s,hs,e⟩:=memS_all a
 obtain ⟨y,e1,e2⟩:=h1 z (List.mem_map.2 ⟨s,List.mem_range.2 hs,e⟩) b
 cases e1
 unfold btG at e2
 simp only [Bool.or_eq_false_iff,decide_eq_false_iff_not,Bool.and_eq_false_iff] at e2
 by_cases c:z.length<(rseR o (2 ^ o.length)).length
 ·exact .inl c
 ·have hl:z.length=(rseR o (2 ^ o.length)).length:=by omega
  refine .inr ⟨hl,?_⟩
  rcases lexB_total hl with q|q|q
  ·rcases e2.2 with r|r
   ·exact absurd hl r
   ·rw [q] at r;cases r
  ·exact .inl q
  ·exact .inr q
theorem rseR_eq (o:List Int):rseR o (2 ^ o.length)=riseL o:=isRise_one (rseR_is o) (riseL_is o)
def fittN (L:Lac) (l:List Int):Nat:=((upto L.C.length).filter fun k=>l.any fun p=>fitB L p.toNat k.toNat).length
def gapP (L:Lac) (l:List Int):Bool:=decide (fittN L l<l.length)
def gapO (L:Lac):Option (List Int):=if (visF (gapP L) (allS L.C.length) none).1=true then (visF (gapP L) (allS L.C.length) none).2 else none
theorem gap_none {L:Lac} (h:gapO L=none):fnd L ≠ []:=by
 have hv:¬ (visF (gapP L) (allS L.C.length) none).1=true:=fun q=>by
  obtain ⟨x,e,_⟩:=visF_some q
  unfold gapO at h
  rw [if_pos q,e] at h;cases h
 obtain ⟨o,h1,h2,h3,h4⟩:=hall (n:=L.C.length) (fit:=fitB L) fun s hs=>by
  have:=visF_none hv s (allS_mem.2 hs)
  unfold gapP at this
  have:=of_decide_eq_false this
  unfold fittN at this
  omega
 have:o ∈ fnd L:=fnd_mem.2 ⟨⟨h1,h2,h3⟩,fun i hi=>h4 i (by omega)⟩
 exact List.ne_nil_of_mem this
theorem gap_fnd {L:Lac} {l:List Int} (hl:l.Sublist (upto L.C.length)) (h:fittN L l<l.length):fnd L=[]:=by
 refine List.eq_nil_iff_forall_not_mem.2 fun o ho=>?_
 obtain ⟨h1,h2⟩:=fnd_mem.1 ho
 obtain ⟨s1,s2⟩:=sub_upto.1 hl
 have hn:l.Nodup:=s1.imp fun q=>by omega
 have:=pigeon (R:=fun p k:Int=>k=o.getD p.toNat 0) (t:=(upto L.C.length).filter fun k=>l.any fun p=>fitB L p.toNat k.toNat) hn (fun p hp=>by
  have hpr:=s2 p hp
  have hk:=ord_at h1 (i:=p.toNat) (by omega)
  refine ⟨_,List.mem_filter.2 ⟨upto_mem.2 hk.2,List.any_eq_true.2 ⟨p,hp,h2 _ (by rw [h1.1];omega)⟩⟩,rfl⟩) (fun p hp q hq k _ e f=>by
  have hpr:=s2 p hp
  have hqr:=s2 q hq
  have:=ord_inj h1 (i:=p.toNat) (j:=q.toNat) (by omega) (by omega) (e.symm.trans f)
  omega)
 unfold fittN at h
 omega
theorem gap_some {L:Lac} {l:List Int} (h:gapO L=some l):l.Sublist (upto L.C.length)∧fittN L l<l.length∧fnd L=[]:=by
 unfold gapO at h
 split at h
 ·rename_i q
  obtain ⟨x,e,hx,hp⟩:=visF_some q
  rw [e] at h
  cases h
  have hs:=allS_mem.1 hx
  have hf:=of_decide_eq_true hp
  exact ⟨hs,hf,gap_fnd hs hf⟩
 ·cases h
def knwL (n:Nat) (os:List (List Int)):List Int:=lst (fun p=>if (os.all fun x=>decide (x.getD p 0=(os.headD []).getD p 0))=true then (os.headD []).getD p 0 else -1) n
def lvsN (n:Nat) (os:List (List Int)) (p:Nat):Int:=grt (lst (fun k=>(os.countP fun o=>decide (o.getD p 0=(k:Int)):Nat)) n)
def askN (n:Nat) (os:List (List Int)):Nat→Int × Int
 | 0=>(0,0)
 | p+1=>if p=0 ∨ lvsN n os p<(askN n os p).2 then ((p:Int),lvsN n os p) else askN n os p
def keyL (l o:List Int):List Int:=l.map fun p=>o.getD p.toNat 0
def dcdP (os:List (List Int)) (l:List Int):Bool:=decide ((os.map (keyL l)).Nodup)
def dcdL (n:Nat) (os:List (List Int)):List Int:=((visF (dcdP os) (allS n) none).2).getD []
theorem keyL_all {n:Nat} {o:List Int} (h:o.length=n):keyL (upto n) o=o:=by
 unfold keyL
 rw [← h];exact upto_map
theorem dcd_all {n:Nat} {os:List (List Int)} (hn:os.Nodup) (hl:∀ o ∈ os,o.length=n):dcdP os (upto n)=true:=by
 refine decide_eq_true ?_
 have:os.map (keyL (upto n))=os:=by
  conv=>rhs;rw [← List.map_id os]
  exact List.map_congr_left fun o ho=>keyL_all (hl o ho)
 rw [this];exact hn
def IsDec (n:Nat) (os:List (List Int)) (x:List Int):Prop:=x.Sublist (upto n)∧dcdP os x=true∧∀ y,y.Sublist (upto n)→dcdP os y=true→y=x ∨ btL x y=true
theorem isDec_one {n:Nat} {os:List (List Int)} {x y:List Int} (hx:IsDec n os x) (hy:IsDec n os y):x=y:=by
 rcases hx.2.2 y hy.1 hy.2.1 with e|e
 ·exact e.symm
 ·rcases hy.2.2 x hx.1 hx.2.1 with f|f
  ·exact f
  ·have:=btL_trans _ _ _ e f
   rw [btL_irr] at this;cases this
theorem dcdL_is {n:Nat} {os:List (List Int)} (hn:os.Nodup) (hl:∀ o ∈ os,o.length=n):(visF (dcdP os) (allS n) none).1=true∧(visF (dcdP os) (allS n) none).2=some (dcdL n os)∧IsDec n os (dcdL n os):=by
 have hv:(visF (dcdP os) (allS n) none).1=true:=Classical.byContradiction fun q=>by
  have:=visF_none q (upto n) (allS_mem.2 (List.Sublist.refl _))
  rw [dcd_all hn hl] at this;cases this
 obtain ⟨x,h1,h2,h3,h4⟩:=visF_first allS_sorted hv
 have e:dcdL n os=x:=by unfold dcdL;rw [h1];rfl
 rw [e]
 exact ⟨hv,h1,allS_mem.1 h2,h3,fun y hy hp=>h4 y (allS_mem.2 hy) hp⟩
def dcdR (n:Nat) (os:List (List Int)):Nat→Option (List Int)
 | 0=>none
 | s+1=>if ((dcdR n os s).all (fun b=>btL (memS n s) b) && dcdP os (memS n s))=true then some (memS n s) else dcdR n os s
theorem dcdR_fold {n:Nat} {os:List (List Int)}:∀ s,dcdR n os s=((List.range s).map (memS n)).foldl (pickO btL (dcdP os)) none
 | 0=>rfl
 | s+1=>by
  rw [List.range_succ,List.map_append,List.foldl_append,← dcdR_fold s]
  simp only [List.map_cons,List.map_nil,List.foldl_cons,List.foldl_nil,pickO]
  rw [dcdR,Bool.and_comm]
theorem dcdR_is {n:Nat} {os:List (List Int)} (hn:os.Nodup) (hl:∀ o ∈ os,o.length=n):dcdR n os (2 ^ n)=some (dcdL n os):=by
 obtain ⟨h1,h2,h3⟩:=pickO_fold btL_irr btL_trans (p:=dcdP os) (xs:=(List.range (2 ^ n)).map (memS n)) (b0:=none)
 rw [← dcdR_fold] at h1 h2 h3
 have mem:∀ {x:List Int},x.Sublist (upto n)→x ∈ (List.range (2 ^ n)).map (memS n):=fun {x} hx=>by
  obtain ⟨s,hs,e⟩:=memS_all hx
  exact List.mem_map.2 ⟨s,List.mem_range.2 hs,e⟩
 obtain ⟨y,e1,_⟩:=h1 (upto n) (mem (List.Sublist.refl _)) (dcd_all hn hl)
 rw [e1]
 congr 1
 rcases h2 y e1 with q|⟨q1,q2⟩
 ·cases q
 ·obtain ⟨s,_,e⟩:=List.mem_map.1 q1
  have ysub:y.Sublist (upto n):=by rw [← e];exact memS_sub
  refine isDec_one (n:=n) (os:=os) ⟨ysub,q2,fun z hz hp=>?_⟩ (dcdL_is hn hl).2.2
  obtain ⟨y',f1,f2⟩:=h1 z (mem hz) hp
  rw [e1] at f1
  cases f1
  unfold btL at f2 ⊢
  simp only [Bool.or_eq_false_iff,decide_eq_false_iff_not,Bool.and_eq_false_iff] at f2
  by_cases c:y.length<z.length
  ·exact .inr (by rw [decide_eq_true c];rfl)
  ·have hl':z.length=y.length:=by omega
   rcases lexB_total hl' with q|q|q
   ·rcases f2.2 with r|r
    ·exact absurd hl' r
    ·rw [q] at r;cases r
   ·exact .inl q
   ·exact .inr (by rw [q,decide_eq_true hl'.symm];simp)
end Go.AM
namespace Go.AM
open Go.Proofs.Tryz
attribute [-go_sem] put_ne put_same
attribute [local go_sem ↓] put_if
abbrev evZ (g:AVal):ABlk:=⟨.cells [g] 51 false false,0⟩
theorem every_Z {base b:Nat} {h:Heap} {v g:AVal} {ts:List (List Int)} (p:List Int→Bool) (hb:base≤h.length) (h1:One g) (hA:AllI b h v ts) (hl:ts.length<2 ^ 60)
  (hg:∀ x t,t ∈ ts→OwnE encI 3 0 h x t→callL prog raw base g [x] (h++[evZ g])=some (.bool (p t),h++[evZ g])) :
  callL prog raw base (.fn 105 [] []) [v,g] h=some (.bool (ts.all p),h++[evZ g]):=by
 obtain ⟨vs,hO,hvl,hel⟩:=hA
 have hR:=hO.rows (by omega)
 obtain ⟨w,H,e,k,b,rfl,c1,c2⟩:=everyS_Z (base:=base) (A:=0) (pr:=fun _=>True) (J:=fun n H=>H=h++[evZ g]∧(ts.take n).all p=true) (S:=fun n H=>H=h++[evZ g]∧ts.all p=false) hb h1 (by omega) trivial (fun n H q=>q.1 ▸ hR.app)
  (fun n x H hx hH hJ=>by
   obtain ⟨rfl,hJ⟩:=hJ
   have hn:=(List.getElem?_eq_some_iff.1 hx).1
   have ht:ts[n]?=some ts[n]:=List.getElem?_eq_getElem (by omega)
   have ho:=hel n x _ hx ht
   rw [norm_one ho.one]
   exact ⟨_,_,hg x _ (List.getElem_mem _) ho,KeepP.refl,fun q=>⟨rfl,all_take ht hJ q⟩,fun q=>⟨rfl,all_no ht q⟩⟩)
  ⟨rfl,by simp⟩
 rw [e]
 cases b with
 | false=>obtain ⟨n,hn,rfl,q⟩:=c2 rfl;rw [q]
 | true =>
  obtain ⟨rfl,q⟩:=c1 rfl
  rw [hvl,List.take_length] at q
  rw [q]
theorem fnd_ord {L:Lac} {o:List Int} (h:o ∈ fnd L):Ord L.C.length o:=(fnd_mem.1 h).1
theorem ord_small {n:Nat} {o:List Int} (h:Ord n o) (hn:n≤1000):Small o:=⟨by have:=h.1;omega,fun x hx=>by have:=h.2.1 x hx;omega⟩
theorem fndE_ok {L:Lac} (h:(fndE L).2=0):chkL L=0∧fnd L ≠ []∧fndE L=(fnd L,0):=by
 unfold fndE at h ⊢
 by_cases c:chkL L=0
 ·rw [if_neg (by simp [c])] at h ⊢
  by_cases d:fnd L=[]
  ·rw [if_pos d] at h;cases h
  ·rw [if_neg d];exact ⟨c,d,rfl⟩
 ·rw [if_pos c] at h;exact absurd h c
theorem fndE_no {L:Lac} (h:(fndE L).2 ≠ 0):(fndE L).1=[]:=by
 unfold fndE at h ⊢
 by_cases c:chkL L=0
 ·rw [if_neg (by simp [c])] at h ⊢
  by_cases d:fnd L=[]
  ·rw [if_pos d]
  ·rw [if_neg d] at h;exact absurd rfl h
 ·rw [if_pos c]
def frsE (L:Lac):List Int × Int:=if (fndE L).2=0 then ((fnd L).headD [],0) else ([],(fndE L).2)
def cntE (L:Lac):Int × Int:=((fndE L).1.length,if (fndE L).2=7 then 0 else (fndE L).2)
def kwnE (L:Lac):List Int × Int:=if (fndE L).2=0 then (knwL L.C.length (fnd L),0) else ([],(fndE L).2)
theorem head_at {α:Type} {l:List (List α)} (h:l ≠ []):l[0]?=some (l.headD []):=by
 cases l with
 | nil=>exact absurd rfl h
 | cons a l=>rfl
theorem run_First {base:Nat} {h:Heap} {v:AVal} {L:Lac} (hb:base≤h.length) (hL:LacAt h v L) :
  Ret prog raw base (.fn 10 [] []) [v] h (fun w H=>Ext h H∧∃ x,w=.tuple [x,.int .i64 (frsE L).2]∧OwnE encI 3 h.length H x (frsE L).1):=by
 have hL0:=hL
 obtain ⟨cv,rv,rfl,hC,hR⟩:=hL
 have o1:=hC.one
 have o2:=hR.one
 obtain ⟨G0,eG0⟩:∃ G0,G0=h++[lacB L.T cv rv]:=⟨_,rfl⟩
 have x0:Ext h G0:=by rw [eG0];exact .app .refl
 have g0:G0[h.length]?=some (lacB L.T cv rv):=by rw [eG0];exact get_eq rfl
 have l0:G0.length=h.length+1:=by rw [eG0];simp
 obtain ⟨w1,H1,e1,x1,a,x,rfl,oa,hA,hD⟩:=run_found (base:=base) (h:=G0) (by omega) (hL0.ext x0)
 have ox:=hA.one
 have l1:=x1.len
 unfold lacB at eG0 g0
 by_cases c:(fndE L).2=0
 ·obtain ⟨c1,c2,c3⟩:=fndE_ok c
  have r:frsE L=((fnd L).headD [],0):=by unfold frsE;rw [if_pos c]
  rw [r]
  rw [c3] at hA e1
  obtain ⟨vs,q1,q2',q3⟩:=hA
  have q2:vs.length=(fnd L).length:=q2'
  have hpos:0<(fnd L).length:=by cases q:fnd L with|nil=>exact absurd q c2|cons a b=>simp
  have hv0:vs[0]?=some vs[0]:=List.getElem?_eq_getElem (by omega)
  have ho:=q3 0 _ _ hv0 (head_at c2)
  obtain ⟨y,ey⟩:∃ y,y=vs[0]'(by rw [q2];exact hpos):=⟨_,rfl⟩
  rw [← ey] at hv0 ho
  have hfew:=fnd_few (L:=L) (chkL_iff.1 c1).n.2
  have hRw:=q1.rows (show vs.length<2 ^ 60 by omega)
  have ad:=hRw.addr (P:=prog) (i:=((0:Nat):Int)) Fc.el32 Fc.ar32 (by omega) (by omega)
  have ld:loadP prog H1 22 (elAdr x 1 0 0)=some y:=hRw.cell (P:=prog) Fc.ty22 hv0 (o:=0) (a:=y) (by simp only [encZ,norm_one ho.one];rfl)
  rw [Int.toNat_natCast,Int.natCast_zero] at ad
  have oy:=ho.one
  have hz:encZ.z=1:=rfl
  rw [hz] at ad
  refine ret_raw func10 rfl (by kernel_rfl) ?_
  have hsp:=@Nat.succ_ne_zero;repeat' (first|simp (disch:=first|exact dq|fail) only [go_sem,↓reduceIte,hsp,← eG0,g0,e1,eq_self,ad,ld]|refine WP_drw ?_|refine cnd_intro (fun hsp=>?_) fun hsp=>?_)
  exact ⟨x0.trans x1,_,rfl,ho.low (by omega)⟩
 ·have t0:((fndE L).2=0)=False:=eq_false c
  have r:frsE L=([],(fndE L).2):=by unfold frsE;rw [if_neg c]
  rw [r]
  refine ret_raw func10 rfl (by kernel_rfl) ?_
  have hsp:=@Nat.succ_ne_zero;repeat' (first|simp (disch:=first|exact dq|fail) only [go_sem,↓reduceIte,hsp,← eG0,g0,e1,t0]|refine WP_drw ?_|refine cnd_intro (fun hsp=>?_) fun hsp=>?_)
  exact ⟨x0.trans x1,_,rfl,.inl Own.nil⟩
theorem run_Count {base:Nat} {h:Heap} {v:AVal} {L:Lac} (hL:LacAt h v L) :
  callL prog raw base (.fn 62 [] []) [v] h=some (.tuple [.int .i64 (cntE L).1,.int .i64 (cntE L).2],h):=by
 have hL0:=hL
 obtain ⟨cv,rv,rfl,hC,hR⟩:=hL
 have o1:=hC.one
 have o2:=hR.one
 obtain ⟨G0,eG0⟩:∃ G0,G0=h++[lacB L.T cv rv]:=⟨_,rfl⟩
 have x0:Ext h G0:=by rw [eG0];exact .app .refl
 have g0:G0[h.length]?=some (lacB L.T cv rv):=by rw [eG0];exact get_eq rfl
 have l0:G0.length=h.length+1:=by rw [eG0];simp
 obtain ⟨w1,H1,e1,x1,a,x,rfl,oa,hA,hD⟩:=run_found (base:=h.length) (h:=G0) (by omega) (hL0.ext x0)
 have ox:=hA.one
 have l1:=x1.len
 have hfew:(fndE L).1.length≤823543:=by
  by_cases c:(fndE L).2=0
  ·obtain ⟨c1,c2,c3⟩:=fndE_ok c
   rw [c3];exact fnd_few (chkL_iff.1 c1).n.2
  ·rw [fndE_no c];simp
 have hln:=hA.all.len (by omega)
 unfold lacB at eG0 g0
 refine callL_run func62 rfl rfl ?_
 by_cases c:(fndE L).2=7
 ·have t0:((fndE L).2=7)=True:=eq_true c
  have hsp:=@Nat.succ_ne_zero;repeat' (first|simp (disch:=first|exact dq|fail) only [go_sem,↓reduceIte,hsp,← eG0,g0,e1,t0,hln]|refine WP_drw ?_|refine cnd_intro (fun hsp=>?_) fun hsp=>?_)
  refine fII rfl ?_ (x0.trans x1)
  unfold cntE
  rw [if_pos c]
 ·have t0:((fndE L).2=7)=False:=eq_false c
  have hsp:=@Nat.succ_ne_zero;repeat' (first|simp (disch:=first|exact dq|fail) only [go_sem,↓reduceIte,hsp,← eG0,g0,e1,t0,hln]|refine WP_drw ?_|refine cnd_intro (fun hsp=>?_) fun hsp=>?_)
  refine fII rfl ?_ (x0.trans x1)
  unfold cntE
  rw [if_neg c]
end Go.AM
namespace Go.AM
open Go.Proofs.Tryz
def sortB (l:List Int):Bool:=decide (∀ i,i<l.length→0<i→l.getD (i-1) 0≤l.getD i 0)
theorem run_sorted {base:Nat} {h:Heap} {v:AVal} {l:List Int} (hI:Ints h v l):callL prog raw base (.fn 111 [] []) [v] h=some (.bool (sortB l),h):=by
 have hl:=hI.1.1
 refine callL_run func111 rfl rfl ?_
 have hsp:=@Nat.succ_ne_zero;repeat' (first|simp (disch:=first|exact dq|fail) only [go_sem,hsp]|refine WP_drw ?_|refine cnd_intro (fun hsp=>?_) fun hsp=>?_)
 refine WP_loop (fun σ=>∃ c:Int,σ.fr 3=.int .i64 c∧σ.fr 0=v∧σ.h=h∧-1≤c∧c<l.length∧∀ i:Nat,c<i→i<l.length→l.getD (i-1) 0≤l.getD i 0) (fun σ=>match σ.fr 3 with|.int _ x=>(x+1).toNat|_=>0) ?_ ?_
 ·refine ⟨(l.length:Int)-1,?_,?_,rfl,by omega,by omega,fun i h1 h2=>by omega⟩
  ·simp (disch:=first|exact dq|fail) only [go_sem]
  ·simp (disch:=first|exact dq|fail) only [go_sem]
 ·rintro ⟨fr,hp⟩ ⟨c,r3,r0,rh,hc1,hc2,hP⟩
  dsimp only at r3 r0 rh
  subst rh
  by_cases hc:c > 0
  ·have hlt:(c > 0)=True:=eq_true hc
   obtain ⟨n,rfl⟩:=Int.eq_ofNat_of_zero_le (show 0≤c by omega)
   have e1:((n:Int)-1).toNat=n-1:=by omega
   by_cases hs:l.getD n 0<l.getD (n-1) 0
   ·have t2:(l.getD n 0<l.getD (n-1) 0)=True:=eq_true hs
    have hsp:=@Nat.succ_ne_zero;repeat' (first|simp (disch:=first|exact dq|fail) only [go_sem,hsp,r3,r0,hlt,e1,t2]|refine WP_drw ?_|refine cnd_intro (fun hsp=>?_) fun hsp=>?_)
    refine fB (decide_eq_false fun hh=>?_).symm
    have:=hh n (by omega) (by omega)
    omega
   ·have t2:(l.getD n 0<l.getD (n-1) 0)=False:=eq_false hs
    have hsp:=@Nat.succ_ne_zero;repeat' (first|simp (disch:=first|exact dq|fail) only [go_sem,hsp,r3,r0,hlt,e1,t2]|refine WP_drw ?_|refine cnd_intro (fun hsp=>?_) fun hsp=>?_)
    refine ⟨⟨(n:Int)-1,rfl,by omega,by omega,fun i h1 h2=>?_⟩,by omega⟩
    by_cases e:i=n
    ·subst e;omega
    ·exact hP i (by omega) h2
  ·have hlt:(c > 0)=False:=eq_false hc
   have hsp:=@Nat.succ_ne_zero;repeat' (first|simp (disch:=first|exact dq|fail) only [go_sem,hsp,r3,r0,hlt]|refine WP_drw ?_|refine cnd_intro (fun hsp=>?_) fun hsp=>?_)
   exact fB (decide_eq_true fun i h1 h2=>hP i (by omega) h1).symm
attribute [go_sem] run_sorted
end Go.AM
