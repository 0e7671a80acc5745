/-
  Plain: moves.
-/
import Derived.Test.YteanoaejoddnbaaU14
import Derived.Test.YteanoaejoddnbaaU11
import Derived.Test.YteanoaejoddnbaaU13
set_option linter.unusedSimpArgs false
set_option linter.unusedVariables false
namespace Go.AM
def mvL (o:List Int) (f t:Nat):List Int:=(o.eraseIdx f).insertIdx t (o.getD f 0)
theorem ins_eq {α:Type} {x:α}:∀ {l:List α} {t:Nat},t≤l.length→l.insertIdx t x=l.take t++x :: l.drop t
 | l,0,_=>by simp
 | [],t+1,h=>by simp at h
 | y :: l,t+1,h=>by
  rw [List.insertIdx_succ_cons,ins_eq (by simpa using h)];rfl
theorem mvL_eq {o:List Int} {f t:Nat} (hf:f<o.length) (ht:t<o.length):mvL o f t=(o.eraseIdx f).take t++o.getD f 0 :: (o.eraseIdx f).drop t :=
 ins_eq (by rw [List.length_eraseIdx_of_lt hf];omega)
theorem er_eq {o:List Int} {f:Nat} (hf:f<o.length):o=(o.eraseIdx f).take f++o.getD f 0 :: (o.eraseIdx f).drop f:=by
 rw [List.eraseIdx_eq_take_drop_succ]
 have hl:(o.take f).length=f:=by rw [List.length_take];omega
 rw [List.take_append_of_le_length (by omega),List.take_of_length_le (by omega),List.drop_append_of_le_length (by omega),List.drop_of_length_le (by omega),List.nil_append]
 conv=>lhs;rw [← List.take_append_drop f o]
 rw [List.drop_eq_getElem_cons hf,getD_at hf]
theorem mvL_len {o:List Int} {f t:Nat} (hf:f<o.length) (ht:t<o.length):(mvL o f t).length=o.length:=by
 have h1:=List.length_eraseIdx_of_lt hf
 rw [mvL_eq hf ht,List.length_append,List.length_cons,List.length_take,List.length_drop,h1]
 omega
theorem mvL_perm {o:List Int} {f t:Nat} (hf:f<o.length) (ht:t<o.length):(mvL o f t).Perm o:=by
 rw [mvL_eq hf ht]
 conv=>rhs;rw [er_eq hf]
 refine (List.perm_middle).trans (List.Perm.trans ?_ (List.perm_middle).symm)
 rw [List.take_append_drop,List.take_append_drop]
theorem mvL_same {o:List Int} {f:Nat} (hf:f<o.length):mvL o f f=o:=by
 rw [mvL_eq hf hf]
 exact (er_eq hf).symm
theorem mvL_back {o:List Int} {f t:Nat} (hf:f<o.length) (ht:t<o.length):mvL (mvL o f t) t f=o:=by
 have hl:=mvL_len hf ht
 have h1:=List.length_eraseIdx_of_lt hf
 have e:=mvL_eq hf ht
 have hlt:((o.eraseIdx f).take t).length=t:=by rw [List.length_take];omega
 have e1:(mvL o f t).eraseIdx t=o.eraseIdx f:=by
  rw [e,List.eraseIdx_append_of_length_le (by omega),hlt,Nat.sub_self]
  show _++(o.eraseIdx f).drop t=_
  exact List.take_append_drop t _
 have e2:(mvL o f t).getD t 0=o.getD f 0:=by
  rw [e,List.getD_eq_getElem?_getD,List.getElem?_append_right (by omega),hlt,Nat.sub_self];rfl
 rw [mvL,e1,e2,ins_eq (by omega)]
 exact (er_eq hf).symm
theorem ord_perm {n:Nat} {o o':List Int} (h:Ord n o) (p:o'.Perm o):Ord n o':=⟨by rw [p.length_eq];exact h.1,fun x hx=>h.2.1 x (p.mem_iff.1 hx),(p.nodup_iff).2 h.2.2⟩
def makF (n:Nat):List (Int × Int)→List Int→List Int × Int
 | [],o=>(o,0)
 | m :: ms,o=>if (0≤m.1∧m.1<(n:Int))∧(0≤m.2∧m.2<(n:Int)) then makF n ms (mvL o m.1.toNat m.2.toNat) else ([],1)
theorem makF_app {n:Nat}:∀ {a b:List (Int × Int)} {o:List Int},makF n (a++b) o=if (makF n a o).2=0 then makF n b (makF n a o).1 else ([],1)
 | [],b,o=>by simp [makF]
 | m :: a,b,o=>by
  rw [List.cons_append,makF,makF]
  split
  ·exact makF_app
  ·rfl
theorem makF_ord {n:Nat}:∀ {ms:List (Int × Int)} {o:List Int},Ord n o→(∀ m ∈ ms,(0≤m.1∧m.1<(n:Int))∧(0≤m.2∧m.2<(n:Int)))→(makF n ms o).2=0∧(makF n ms o).1.Perm o
 | [],o,_,_=>⟨rfl,.refl _⟩
 | m :: ms,o,ho,h=>by
  have hm:=h m (by simp)
  rw [makF,if_pos hm]
  have hp:=mvL_perm (o:=o) (f:=m.1.toNat) (t:=m.2.toNat) (by rw [ho.1];omega) (by rw [ho.1];omega)
  have:=makF_ord (ms:=ms) (ord_perm ho hp) (fun x hx=>h x (by simp [hx]))
  exact ⟨this.1,this.2.trans hp⟩
theorem makF_back {n:Nat}:∀ {ms:List (Int × Int)} {o:List Int},Ord n o→(∀ m ∈ ms,(0≤m.1∧m.1<(n:Int))∧(0≤m.2∧m.2<(n:Int)))→makF n (ms++(ms.map fun m=>(m.2,m.1)).reverse) o=(o,0)
 | [],o,_,_=>rfl
 | m :: ms,o,ho,h=>by
  have hm:=h m (by simp)
  have hp:=mvL_perm (o:=o) (f:=m.1.toNat) (t:=m.2.toNat) (by rw [ho.1];omega) (by rw [ho.1];omega)
  have ih:=makF_back (ms:=ms) (ord_perm ho hp) (fun x hx=>h x (by simp [hx]))
  rw [List.map_cons,List.reverse_cons,List.cons_append,makF,if_pos hm,← List.append_assoc,makF_app,ih]
  simp only [if_true,makF]
  rw [if_pos ⟨hm.2,hm.1⟩,mvL_back (by rw [ho.1];omega) (by rw [ho.1];omega)]
def SubR (o s:List Int):Prop:=s.Sublist o∧s.Pairwise (·<·)
theorem upto_map {o:List Int}:(upto o.length).map (fun p=>o.getD p.toNat 0)=o:=by
 unfold upto
 have:=lst_self o
 conv=>rhs;rw [this]
 unfold lst
 rw [List.map_map]
 refine List.map_congr_left fun i _=>?_
 simp
theorem rise_sub {o l:List Int} (h:RiseP o l):SubR o (l.map fun p=>o.getD p.toNat 0):=by
 refine ⟨?_,List.pairwise_map.2 (h.1.imp fun q=>q.2)⟩
 have e:l=(upto o.length).filter fun x=>decide (x ∈ l):=by
  refine pair_ext (h.1.imp fun q=>q.1) ((upto_sorted _).filter _) fun x=>?_
  rw [List.mem_filter,upto_mem,decide_eq_true_eq]
  exact ⟨fun q=>⟨h.2 x q,q⟩,fun q=>q.2⟩
 have h1:l.Sublist (upto o.length):=by rw [e];exact List.filter_sublist
 have:=h1.map (fun p=>o.getD p.toNat 0)
 rwa [upto_map] at this
theorem sub_rise:∀ {s o:List Int},s.Sublist o→∃ l:List Nat,l.Pairwise (·<·)∧(∀ p ∈ l,p<o.length)∧s=l.map fun p=>o.getD p 0:=by
 intro s o h
 induction h with
 | slnil=>exact ⟨[],.nil,by simp,rfl⟩
 | @cons l₁ l₂ a h ih =>
  obtain ⟨l,h1,h2,h3⟩:=ih
  refine ⟨l.map (·+1),List.pairwise_map.2 (h1.imp fun h=>by omega),fun p hp=>?_,?_⟩
  ·obtain ⟨q,hq,rfl⟩:=List.mem_map.1 hp
   have:=h2 q hq
   simp;omega
  ·rw [List.map_map,h3]
   exact List.map_congr_left fun p _=>by simp
 | @cons_cons l₁ l₂ a h ih =>
  obtain ⟨l,h1,h2,h3⟩:=ih
  refine ⟨0 :: l.map (·+1),List.pairwise_cons.2 ⟨fun q hq=>?_,List.pairwise_map.2 (h1.imp fun h=>by omega)⟩,fun p hp=>?_,?_⟩
  ·obtain ⟨x,_,rfl⟩:=List.mem_map.1 hq
   omega
  ·rcases List.mem_cons.1 hp with e|e
   ·rw [e];simp
   ·obtain ⟨q,hq,rfl⟩:=List.mem_map.1 e
    have:=h2 q hq
    simp;omega
  ·rw [List.map_cons,List.map_map,h3]
   exact congrArg _ (List.map_congr_left fun p _=>by simp)
def lisN (o:List Int):Nat:=(riseL o).length
theorem lis_ge {o s:List Int} (h:SubR o s):s.length≤lisN o:=by
 obtain ⟨l,h1,h2,h3⟩:=sub_rise h.1
 have hr:RiseP o (l.map fun p:Nat=>(p:Int)):=by
  refine ⟨?_,fun p hp=>?_⟩
  ·have hv:=h.2
   rw [h3,List.pairwise_map] at hv
   rw [List.pairwise_map]
   exact (h1.and hv).imp fun ⟨a,b⟩=>⟨by omega,by simpa using b⟩
  ·obtain ⟨q,hq,rfl⟩:=List.mem_map.1 hp
   have:=h2 q hq
   omega
 have:=(riseL_is o).2 _ hr
 rw [List.length_map] at this
 rw [h3,List.length_map]
 unfold lisN
 omega
theorem lis_is (o:List Int):∃ s,SubR o s∧s.length=lisN o:=⟨_,rise_sub (riseL_is o).1,by rw [List.length_map];rfl⟩
theorem lis_move {o:List Int} {f t:Nat} (hf:f<o.length) (ht:t<o.length):lisN (mvL o f t)≤lisN o+1:=by
 obtain ⟨s,⟨h1,h2⟩,h3⟩:=lis_is (mvL o f t)
 obtain ⟨x,ex⟩:∃ x,x=o.getD f 0:=⟨_,rfl⟩
 have e:(mvL o f t).filter (fun y=>decide (y ≠ x))=(o.eraseIdx f).filter fun y=>decide (y ≠ x):=by
  rw [mvL_eq hf ht,List.filter_append,List.filter_cons,if_neg (by simp [ex]),← List.filter_append,List.take_append_drop]
 have h4:SubR o (s.filter fun y=>decide (y ≠ x)):=by
  refine ⟨?_,h2.filter _⟩
  have:=h1.filter (fun y=>decide (y ≠ x))
  rw [e] at this
  exact (this.trans List.filter_sublist).trans (List.eraseIdx_sublist o f)
 have h5:=lis_ge h4
 have h6:s.length≤(s.filter fun y=>decide (y ≠ x)).length+1:=by
  have hn:s.Nodup:=h2.imp fun h=>by omega
  have aux:∀ {l:List Int},l.Nodup→l.length≤(l.filter fun y=>decide (y ≠ x)).length+1:=by
   intro l
   induction l with
   | nil=>simp
   | cons y l ih =>
    intro h
    rw [List.nodup_cons] at h
    by_cases c:y=x
    ·subst c
     have:l.filter (fun z=>decide (z ≠ y))=l:=List.filter_eq_self.2 fun z hz=>decide_eq_true fun q=>h.1 (q ▸ hz)
     rw [List.filter_cons,if_neg (by simp),this,List.length_cons]
     omega
    ·have:=ih h.2
     rw [List.filter_cons,if_pos (by simp [c]),List.length_cons,List.length_cons]
     omega
  exact aux hn
 omega
theorem lis_moves {n:Nat}:∀ {ms:List (Int × Int)} {o:List Int},Ord n o→(∀ m ∈ ms,(0≤m.1∧m.1<(n:Int))∧(0≤m.2∧m.2<(n:Int)))→lisN (makF n ms o).1≤lisN o+ms.length
 | [],o,_,_=>by simp [makF]
 | m :: ms,o,ho,h=>by
  have hm:=h m (by simp)
  rw [makF,if_pos hm]
  have hf:m.1.toNat<o.length:=by rw [ho.1];omega
  have ht:m.2.toNat<o.length:=by rw [ho.1];omega
  have h1:=lis_move hf ht
  have h2:=lis_moves (ms:=ms) (ord_perm ho (mvL_perm hf ht)) (fun x hx=>h x (by simp [hx]))
  rw [List.length_cons]
  omega
theorem ord_sorted {n:Nat} {o:List Int} (h:Ord n o) (hs:o.Pairwise (·≤·)):o=upto n:=by
 have hs2:o.Pairwise (·<·):=(hs.and h.2.2).imp fun ⟨a,b⟩=>by omega
 refine pair_ext hs2 (upto_sorted n) fun x=>?_
 rw [upto_mem]
 exact ⟨fun q=>h.2.1 x q,fun q=>ord_all h q⟩
theorem lis_upto {n:Nat}:n≤lisN (upto n):=by
 have:=lis_ge (o:=upto n) (s:=upto n) ⟨List.Sublist.refl _,upto_sorted n⟩
 rwa [upto_len] at this
theorem sub_two:∀ {l:List Int} {i j:Nat} (h:i<j) (hj:j<l.length),[l[i]'(by omega),l[j]].Sublist l
 | [],i,j,_,hj=>by simp at hj
 | x :: l,0,0,h,_=>by omega
 | x :: l,0,j+1,_,hj=>by
  simp only [List.getElem_cons_zero,List.getElem_cons_succ]
  exact (List.singleton_sublist.2 (List.getElem_mem _)).cons_cons x
 | x :: l,i+1,0,h,_=>by omega
 | x :: l,i+1,j+1,h,hj=>by
  simp only [List.getElem_cons_succ]
  exact (sub_two (l:=l) (by omega) (by simpa using hj)).cons x
def mndT (rest kept:List Int) (k:Int):Nat→Nat
 | 0=>0
 | i+1=>if rest.getD i 0<k∧rest.getD i 0 ∈ kept then i+1 else mndT rest kept k i
structure MndS where
 o:List Int
 kept:List Int
 out:List (Int × Int)
def mndS (s:MndS) (k:Int):MndS :=
 if k ∈ s.kept then s else
 let f:=s.o.idxOf k
 let t:=mndT (s.o.eraseIdx f) s.kept k (s.o.eraseIdx f).length
 ⟨mvL s.o f t,s.kept++[k],if f=t then s.out else s.out++[((f:Int),(t:Int))]⟩
def mndN (s:MndS):Nat→MndS
 | 0=>s
 | k+1=>mndS (mndN s k) (k:Int)
def mndL (o:List Int):List (Int × Int):=(mndN ⟨o,(riseL o).map fun p=>o.getD p.toNat 0,[]⟩ o.length).out
theorem mndT_le {rest kept:List Int} {k:Int}:∀ i,mndT rest kept k i≤i
 | 0=>Nat.le_refl _
 | i+1=>by
  have:=mndT_le (rest:=rest) (kept:=kept) (k:=k) i
  rw [mndT];split<;>omega
theorem mndT_is {rest kept:List Int} {k:Int}:∀ i,(mndT rest kept k i=0 ∨ (0<mndT rest kept k i∧rest.getD (mndT rest kept k i-1) 0<k∧rest.getD (mndT rest kept k i-1) 0 ∈ kept))∧∀ j,mndT rest kept k i≤j→j<i→¬ (rest.getD j 0<k∧rest.getD j 0 ∈ kept)
 | 0=>⟨.inl rfl,fun j _ hj=>by omega⟩
 | i+1=>by
  have ih:=mndT_is (rest:=rest) (kept:=kept) (k:=k) i
  rw [mndT]
  split
  ·rename_i c
   exact ⟨.inr ⟨by omega,by simpa using c⟩,fun j h1 h2=>by omega⟩
  ·rename_i c
   refine ⟨ih.1,fun j h1 h2=>?_⟩
   by_cases e:j=i
   ·rw [e];exact c
   ·exact ih.2 j h1 (by omega)
structure MndI (n:Nat) (o0:List Int) (kept0:List Int) (k:Nat) (s:MndS):Prop where
 ord:Ord n s.o
 up:(s.o.filter fun x=>decide (x ∈ s.kept)).Pairwise (·<·)
 kept:∀ x,x ∈ s.kept ↔ x ∈ kept0 ∨ (0≤x∧x<(k:Int))
 rng:∀ m ∈ s.out,(0≤m.1∧m.1<(n:Int))∧(0≤m.2∧m.2<(n:Int))
 mak:makF n s.out o0=(s.o,0)
 few:s.out.length≤(upto k).countP fun x=>decide (x ∉ kept0)
theorem mndS_ok {n:Nat} {o0 kept0:List Int} {k:Nat} {s:MndS} (hk:k<n) (hk0:∀ x ∈ kept0,0≤x∧x<(n:Int)) (h:MndI n o0 kept0 k s):MndI n o0 kept0 (k+1) (mndS s (k:Int)):=by
 have cnt:(upto (k+1)).countP (fun x=>decide (x ∉ kept0))=(upto k).countP (fun x=>decide (x ∉ kept0))+if (k:Int) ∈ kept0 then 0 else 1:=by
  rw [upto_succ,List.countP_append,List.countP_cons,List.countP_nil]
  by_cases c:(k:Int) ∈ kept0<;>simp [c]
 unfold mndS
 by_cases c:(k:Int) ∈ s.kept
 ·rw [if_pos c]
  refine ⟨h.ord,h.up,fun x=>?_,h.rng,h.mak,by have:=h.few;rw [cnt];omega⟩
  rw [h.kept x]
  have c':=(h.kept _).1 c
  constructor
  ·rintro (q|q)
   ·exact .inl q
   ·exact .inr (by omega)
  ·rintro (q|q)
   ·exact .inl q
   ·by_cases e:x=(k:Int)
    ·rcases c' with r|r
     ·exact .inl (e ▸ r)
     ·omega
    ·exact .inr (by omega)
 ·rw [if_neg c]
  have hm:=ord_all h.ord (x:=(k:Int)) (by omega)
  obtain ⟨f,ef⟩:∃ f,f=s.o.idxOf (k:Int):=⟨_,rfl⟩
  have hf:f<s.o.length:=by rw [ef];exact List.idxOf_lt_length_iff.2 hm
  have hfk:s.o.getD f 0=(k:Int):=by rw [getD_at hf];subst ef;exact List.getElem_idxOf hf
  have hrl:(s.o.eraseIdx f).length=n-1:=by rw [List.length_eraseIdx_of_lt hf,h.ord.1]
  obtain ⟨t,et⟩:∃ t,t=mndT (s.o.eraseIdx f) s.kept (k:Int) (s.o.eraseIdx f).length:=⟨_,rfl⟩
  have ht:t≤n-1:=by rw [et,← hrl];exact mndT_le _
  have hol:=h.ord.1
  show MndI n o0 kept0 (k+1) ⟨mvL s.o (s.o.idxOf (k:Int)) (mndT (s.o.eraseIdx (s.o.idxOf (k:Int))) s.kept (k:Int) (s.o.eraseIdx (s.o.idxOf (k:Int))).length),s.kept++[(k:Int)],if s.o.idxOf (k:Int)=mndT (s.o.eraseIdx (s.o.idxOf (k:Int))) s.kept (k:Int) (s.o.eraseIdx (s.o.idxOf (k:Int))).length then s.out else s.out++[(((s.o.idxOf (k:Int):Nat):Int),((mndT (s.o.eraseIdx (s.o.idxOf (k:Int))) s.kept (k:Int) (s.o.eraseIdx (s.o.idxOf (k:Int))).length:Nat):Int))]⟩
  rw [← ef,← et]
  have hknew:¬ (k:Int) ∈ kept0:=fun q=>c ((h.kept _).2 (.inl q))
  have hp:=mvL_perm (o:=s.o) (f:=f) (t:=t) hf (by omega)
  have hrest:(s.o.eraseIdx f).filter (fun x=>decide (x ∈ s.kept))=s.o.filter fun x=>decide (x ∈ s.kept):=by
   conv=>rhs;rw [er_eq hf]
   rw [List.filter_append,List.filter_cons,if_neg (by rw [hfk];simp [c]),← List.filter_append,List.take_append_drop]
  have hmt:=mndT_is (rest:=s.o.eraseIdx f) (kept:=s.kept) (k:=(k:Int)) (s.o.eraseIdx f).length
  rw [← et] at hmt
  have hkr:(k:Int) ∉ s.o.eraseIdx f:=fun q=>by
   have:=h.ord.2.2
   rw [er_eq hf,hfk] at this
   have q':(k:Int) ∈ (s.o.eraseIdx f).take f++(s.o.eraseIdx f).drop f:=by rw [List.take_append_drop];exact q
   have:=(List.perm_middle (a:=(k:Int)) (l₁:=(s.o.eraseIdx f).take f) (l₂:=(s.o.eraseIdx f).drop f)).nodup_iff.1 this
   exact (List.nodup_cons.1 this).1 q'
  refine ⟨ord_perm h.ord hp,?_,fun x=>?_,?_,?_,?_⟩
  ·-- in order
   show ((mvL s.o f t).filter fun x=>decide (x ∈ s.kept++[(k:Int)])).Pairwise (·<·)
   have up:=h.up
   rw [← hrest] at up
   rw [mvL_eq hf (by omega),hfk,List.filter_append,List.filter_cons,if_pos (by simp)]
   have flt:∀ {l:List Int},(∀ x ∈ l,x ≠ (k:Int))→l.filter (fun x=>decide (x ∈ s.kept++[(k:Int)]))=l.filter fun x=>decide (x ∈ s.kept):=fun {l} hl=>List.filter_congr fun x hx=>by
    have:=hl x hx
    simp [this]
   have n1:∀ x ∈ (s.o.eraseIdx f).take t,x ≠ (k:Int):=fun x hx e=>hkr (e ▸ List.mem_of_mem_take hx)
   have n2:∀ x ∈ (s.o.eraseIdx f).drop t,x ≠ (k:Int):=fun x hx e=>hkr (e ▸ List.mem_of_mem_drop hx)
   rw [flt n1,flt n2]
   have up2:=up
   conv at up2=>rw [← List.take_append_drop t (s.o.eraseIdx f)]
   rw [List.filter_append,List.pairwise_append] at up2
   obtain ⟨u1,u2,u3⟩:=up2
   have lo:∀ x ∈ (s.o.eraseIdx f).take t,x ∈ s.kept→x<(k:Int):=fun x hx hxk=>by
    rcases hmt.1 with e|⟨e1,e2,e3⟩
    ·rw [e] at hx;simp at hx
    ·have htl:t-1<((s.o.eraseIdx f).take t).length:=by rw [List.length_take];omega
     obtain ⟨i,hi,rfl⟩:=List.getElem_of_mem hx
     have hil:i<t:=by rw [List.length_take] at hi;omega
     by_cases c1:i=t-1
     ·subst c1
      rw [List.getElem_take]
      rwa [getD_at (by omega)] at e2
     ·-- an earlier one that is kept is less
      have hsub:[((s.o.eraseIdx f).take t)[i],((s.o.eraseIdx f).take t)[t-1]].Sublist ((s.o.eraseIdx f).take t):=by
       have:=sub_two (l:=(s.o.eraseIdx f).take t) (i:=i) (j:=t-1) (by omega) htl
       exact this
      have hs2:=hsub.filter fun x=>decide (x ∈ s.kept)
      have e4:((s.o.eraseIdx f).take t)[t-1]=(s.o.eraseIdx f)[t-1]'(by omega):=List.getElem_take
      have htr:t-1<(s.o.eraseIdx f).length:=by omega
      rw [getD_at htr] at e2 e3
      have ek:((s.o.eraseIdx f).take t)[t-1] ∈ s.kept:=by rw [e4];exact e3
      rw [List.filter_cons,if_pos (by simpa using hxk),List.filter_cons,if_pos (by simpa using ek),List.filter_nil] at hs2
      have:=List.rel_of_pairwise_cons (u1.sublist hs2) (List.mem_singleton.2 rfl)
      rw [e4] at this
      omega
   have hi:∀ x ∈ (s.o.eraseIdx f).drop t,x ∈ s.kept→(k:Int)<x:=fun x hx hxk=>by
    obtain ⟨i,hi,rfl⟩:=List.getElem_of_mem hx
    rw [List.length_drop] at hi
    have:=hmt.2 (t+i) (by omega) (by omega)
    rw [List.getElem_drop] at hxk ⊢
    rw [getD_at (by omega)] at this
    have hne:=n2 _ hx
    rw [List.getElem_drop] at hne
    rcases Int.lt_trichotomy (s.o.eraseIdx f)[t+i] (k:Int) with q|q|q
    ·exact absurd ⟨q,hxk⟩ this
    ·exact absurd q hne
    ·exact q
   rw [List.pairwise_append]
   refine ⟨u1,List.pairwise_cons.2 ⟨fun x hx=>?_,u2⟩,fun a ha b hb=>?_⟩
   ·obtain ⟨h1,h2⟩:=List.mem_filter.1 hx
    exact hi x h1 (of_decide_eq_true h2)
   ·obtain ⟨h1,h2⟩:=List.mem_filter.1 ha
    rcases List.mem_cons.1 hb with e|e
    ·rw [e];exact lo a h1 (of_decide_eq_true h2)
    ·exact u3 a ha b e
  ·show x ∈ s.kept++[(k:Int)] ↔ _
   rw [List.mem_append,List.mem_singleton,h.kept x]
   constructor
   ·rintro ((q|q)|q)
    ·exact .inl q
    ·exact .inr (by omega)
    ·exact .inr (by omega)
   ·rintro (q|q)
    ·exact .inl (.inl q)
    ·by_cases e:x=(k:Int)
     ·exact .inr e
     ·exact .inl (.inr (by omega))
  ·dsimp only
   split
   ·exact h.rng
   ·intro m hm'
    rcases List.mem_append.1 hm' with q|q
    ·exact h.rng m q
    ·rw [List.mem_singleton] at q
     subst q
     exact ⟨by simp only;omega,by simp only;omega⟩
  ·dsimp only
   split
   ·rename_i e
    rw [h.mak,← e,mvL_same hf]
   ·rw [makF_app,h.mak,if_pos rfl,makF,if_pos ⟨by simp only;omega,by simp only;omega⟩]
    simp only [Int.toNat_natCast,makF]
  ·have:=h.few
   rw [cnt,if_neg hknew]
   dsimp only
   split
   ·omega
   ·rw [List.length_append,List.length_cons,List.length_nil];omega
theorem sub_filter:∀ {l s:List Int},l.Nodup→s.Sublist l→l.filter (fun x=>decide (x ∈ s))=s:=by
 intro l s hn h
 induction h with
 | slnil=>rfl
 | @cons s l a h ih =>
  rw [List.nodup_cons] at hn
  rw [List.filter_cons,if_neg (by simp;exact fun q=>hn.1 (h.subset q))]
  exact ih hn.2
 | @cons_cons s l a h ih =>
  rw [List.nodup_cons] at hn
  rw [List.filter_cons,if_pos (by simp)]
  congr 1
  have:=ih hn.2
  conv=>rhs;rw [← this]
  refine List.filter_congr fun x hx=>?_
  have:x ≠ a:=fun e=>hn.1 (e ▸ hx)
  simp [this]
theorem mndN_ok {n:Nat} {o0:List Int} (ho:Ord n o0):∀ {k},k≤n→MndI n o0 ((riseL o0).map fun p=>o0.getD p.toNat 0) k (mndN ⟨o0,(riseL o0).map fun p=>o0.getD p.toNat 0,[]⟩ k)
 | 0,_=>by
  have hs:=rise_sub (riseL_is o0).1
  refine ⟨ho,?_,fun x=>?_,by simp [mndN],rfl,by simp [mndN]⟩
  ·show (o0.filter fun x=>decide (x ∈ (riseL o0).map fun p=>o0.getD p.toNat 0)).Pairwise (·<·)
   obtain ⟨S,eS⟩:∃ S,S=(riseL o0).map fun p=>o0.getD p.toNat 0:=⟨_,rfl⟩
   rw [← eS] at hs ⊢
   have e:o0.filter (fun x=>decide (x ∈ S))=S:=sub_filter ho.2.2 hs.1
   rw [e]
   exact hs.2
  ·show x ∈ _ ↔ x ∈ _ ∨ _
   exact ⟨.inl,fun h=>h.elim id fun h=>by omega⟩
 | k+1,hk=>mndS_ok (by omega) (fun x hx=>by
   have:=(rise_sub (riseL_is o0).1).1.subset hx
   exact ho.2.1 x this) (mndN_ok ho (k:=k) (by omega))
theorem mndL_ok {n:Nat} {o:List Int} (ho:Ord n o):makF n (mndL o) o=(upto n,0)∧(∀ m ∈ mndL o,(0≤m.1∧m.1<(n:Int))∧(0≤m.2∧m.2<(n:Int)))∧(mndL o).length+lisN o=n:=by
 have h:=mndN_ok ho (Nat.le_refl n)
 obtain ⟨S,eS⟩:∃ S,S=(riseL o).map fun p=>o.getD p.toNat 0:=⟨_,rfl⟩
 have hs:=rise_sub (riseL_is o).1
 rw [← eS] at h hs
 have hl:mndL o=(mndN ⟨o,S,[]⟩ n).out:=by unfold mndL;rw [ho.1,eS]
 rw [hl]
 have hall:(mndN ⟨o,S,[]⟩ n).o.filter (fun x=>decide (x ∈ (mndN ⟨o,S,[]⟩ n).kept))=(mndN ⟨o,S,[]⟩ n).o:=List.filter_eq_self.2 fun x hx=>decide_eq_true ((h.kept x).2 (.inr (h.ord.2.1 x hx)))
 have hup:=h.up
 rw [hall] at hup
 have hfin:=ord_sorted h.ord (hup.imp fun q=>by omega)
 have hmk:=h.mak
 rw [hfin] at hmk
 refine ⟨hmk,h.rng,?_⟩
 have h1:=lis_moves ho h.rng
 rw [hmk] at h1
 dsimp only at h1
 have h2:=lis_upto (n:=n)
 have h3:=h.few
 -- the cards that are not kept
 have h4:S.length=lisN o:=by rw [eS,List.length_map];rfl
 have h5:(upto n).countP (fun x=>decide (x ∉ S))+S.length=n:=by
  have e1:=List.length_eq_countP_add_countP (l:=upto n) (fun x=>decide (x ∈ S))
  rw [upto_len] at e1
  have e2:(upto n).countP (fun x=>decide (x ∈ S))=S.length:=by
   have hSn:S.Pairwise (·<·):=hs.2
   rw [List.countP_eq_length_filter]
   have:(upto n).filter (fun x=>decide (x ∈ S))=S:=by
    refine pair_ext ((upto_sorted n).filter _) hSn fun x=>?_
    rw [List.mem_filter,upto_mem,decide_eq_true_eq]
    exact ⟨fun q=>q.2,fun q=>⟨ho.2.1 x (hs.1.subset q),q⟩⟩
   rw [this]
  have e3:(upto n).countP (fun x=>decide (x ∉ S))=(upto n).countP (fun a=>decide ¬ decide (a ∈ S)=true):=List.countP_congr fun a _=>by simp
  omega
 omega
end Go.AM
namespace Go.AM
def pickO {α:Type} (better:α→α→Bool) (p:α→Bool) (b:Option α) (x:α):Option α:=if (p x && b.all fun y=>better x y)=true then some x else b
def memS (n s:Nat):List Int:=(upto n).filter fun i=>s.testBit i.toNat
def btG (x y:List Int):Bool:=decide (y.length<x.length) || (decide (x.length=y.length) && lexB x y)
def btL (x y:List Int):Bool:=decide (x.length<y.length) || (decide (x.length=y.length) && lexB x y)
def setsR (n:Nat):Nat→List (List Int)
 | 0=>[]
 | k+1=>setsR n k++[memS n (k+1)]
end Go.AM
namespace Go.AM
def lexC (of:List Int):Nat→List Int→Nat→List (List Int)
 | 0,l,_=>[l]
 | d+1,l,a=>(List.range (of.length-a)).flatMap fun q=>lexC of d (l++[of.getD (a+q) 0]) (a+q+1)
def lexP (of:List Int) (d:Nat) (l:List Int) (a j:Nat):List (List Int):=(List.range j).flatMap fun q=>lexC of d (l++[of.getD (a+q) 0]) (a+q+1)
def visF (p:List Int→Bool):List (List Int)→Option (List Int)→Bool × Option (List Int)
 | [],o=>(false,o)
 | x :: xs,_=>if p x=true then (true,some x) else visF p xs (some x)
end Go.AM
namespace Go.AM
def allS (n:Nat):List (List Int):=(List.range (n+1)).flatMap fun m=>lexC (upto n) m [] 0
def risB (o l:List Int):Bool:=decide (l.Pairwise fun p q=>o.getD p.toNat 0<o.getD q.toNat 0)
def rseR (o:List Int):Nat→List Int
 | 0=>[]
 | s+1=>if (risB o (memS o.length s) && btG (memS o.length s) (rseR o s))=true then memS o.length s else rseR o s
def fittN (L:Lac) (l:List Int):Nat:=((upto L.C.length).filter fun k=>l.any fun p=>fitB L p.toNat k.toNat).length
def gapP (L:Lac) (l:List Int):Bool:=decide (fittN L l<l.length)
def gapO (L:Lac):Option (List Int):=if (visF (gapP L) (allS L.C.length) none).1=true then (visF (gapP L) (allS L.C.length) none).2 else none
def knwL (n:Nat) (os:List (List Int)):List Int:=lst (fun p=>if (os.all fun x=>decide (x.getD p 0=(os.headD []).getD p 0))=true then (os.headD []).getD p 0 else -1) n
def lvsN (n:Nat) (os:List (List Int)) (p:Nat):Int:=grt (lst (fun k=>(os.countP fun o=>decide (o.getD p 0=(k:Int)):Nat)) n)
def askN (n:Nat) (os:List (List Int)):Nat→Int × Int
 | 0=>(0,0)
 | p+1=>if p=0 ∨ lvsN n os p<(askN n os p).2 then ((p:Int),lvsN n os p) else askN n os p
def keyL (l o:List Int):List Int:=l.map fun p=>o.getD p.toNat 0
def dcdP (os:List (List Int)) (l:List Int):Bool:=decide ((os.map (keyL l)).Nodup)
def dcdL (n:Nat) (os:List (List Int)):List Int:=((visF (dcdP os) (allS n) none).2).getD []
def IsDec (n:Nat) (os:List (List Int)) (x:List Int):Prop:=x.Sublist (upto n)∧dcdP os x=true∧∀ y,y.Sublist (upto n)→dcdP os y=true→y=x ∨ btL x y=true
def dcdR (n:Nat) (os:List (List Int)):Nat→Option (List Int)
 | 0=>none
 | s+1=>if ((dcdR n os s).all (fun b=>btL (memS n s) b) && dcdP os (memS n s))=true then some (memS n s) else dcdR n os s
end Go.AM
namespace Go.AM
open Go.Proofs.Try
attribute [-go_sem] put_ne put_same
attribute [local go_sem ↓] put_if
abbrev evZ (g:AVal):ABlk:=⟨.cells [g] 74 false false,0⟩
theorem every_Z {base b:Nat} {h:Heap} {v g:AVal} {ts:List (List Int)} (p:List Int→Bool) (hb:base≤h.length) (h1:One g) (hA:AllI b h v ts) (hl:ts.length<2 ^ 60)
  (hg:∀ x t,t ∈ ts→OwnE encI 3 0 h x t→callL prog raw base g [x] (h++[evZ g])=some (.bool (p t),h++[evZ g])) :
  callL prog raw base (.fn 106 [] []) [v,g] h=some (.bool (ts.all p),h++[evZ g]):=by
 obtain ⟨vs,hO,hvl,hel⟩:=hA
 have hR:=hO.rows (by omega)
 obtain ⟨w,H,e,k,b,rfl,c1,c2⟩:=everyS_Z (base:=base) (A:=0) (pr:=fun _=>True) (J:=fun n H=>H=h++[evZ g]∧(ts.take n).all p=true) (S:=fun n H=>H=h++[evZ g]∧ts.all p=false) hb h1 (by omega) trivial (fun n H q=>q.1 ▸ hR.app)
  (fun n x H hx hH hJ=>by
   obtain ⟨rfl,hJ⟩:=hJ
   have hn:=(List.getElem?_eq_some_iff.1 hx).1
   have ht:ts[n]?=some ts[n]:=List.getElem?_eq_getElem (by omega)
   have ho:=hel n x _ hx ht
   rw [norm_one ho.one]
   exact ⟨_,_,hg x _ (List.getElem_mem _) ho,KeepP.refl,fun q=>⟨rfl,all_take ht hJ q⟩,fun q=>⟨rfl,all_no ht q⟩⟩)
  ⟨rfl,by simp⟩
 rw [e]
 cases b with
 | false=>obtain ⟨n,hn,rfl,q⟩:=c2 rfl;rw [q]
 | true =>
  obtain ⟨rfl,q⟩:=c1 rfl
  rw [hvl,List.take_length] at q
  rw [q]
theorem fnd_ord {L:Lac} {o:List Int} (h:o ∈ fnd L):Ord L.C.length o:=(fnd_mem.1 h).1
theorem ord_small {n:Nat} {o:List Int} (h:Ord n o) (hn:n≤1000):Small o:=⟨by have:=h.1;omega,fun x hx=>by have:=h.2.1 x hx;omega⟩
theorem fndE_ok {L:Lac} (h:(fndE L).2=0):chkL L=0∧fnd L ≠ []∧fndE L=(fnd L,0):=by
 unfold fndE at h ⊢
 by_cases c:chkL L=0
 ·rw [if_neg (by simp [c])] at h ⊢
  by_cases d:fnd L=[]
  ·rw [if_pos d] at h;cases h
  ·rw [if_neg d];exact ⟨c,d,rfl⟩
 ·rw [if_pos c] at h;exact absurd h c
theorem fndE_no {L:Lac} (h:(fndE L).2 ≠ 0):(fndE L).1=[]:=by
 unfold fndE at h ⊢
 by_cases c:chkL L=0
 ·rw [if_neg (by simp [c])] at h ⊢
  by_cases d:fnd L=[]
  ·rw [if_pos d]
  ·rw [if_neg d] at h;exact absurd rfl h
 ·rw [if_pos c]
def frsE (L:Lac):List Int × Int:=if (fndE L).2=0 then ((fnd L).headD [],0) else ([],(fndE L).2)
def cntE (L:Lac):Int × Int:=((fndE L).1.length,if (fndE L).2=7 then 0 else (fndE L).2)
def kwnE (L:Lac):List Int × Int:=if (fndE L).2=0 then (knwL L.C.length (fnd L),0) else ([],(fndE L).2)
theorem head_at {α:Type} {l:List (List α)} (h:l ≠ []):l[0]?=some (l.headD []):=by
 cases l with
 | nil=>exact absurd rfl h
 | cons a l=>rfl
theorem run_Count {base:Nat} {h:Heap} {v:AVal} {L:Lac} (hL:LacAt h v L) :
  callL prog raw base (.fn 40 [] []) [v] h=some (.tuple [.int .i64 (cntE L).1,.int .i64 (cntE L).2],h):=by
 have hL0:=hL
 obtain ⟨cv,rv,rfl,hC,hR⟩:=hL
 have o1:=hC.one
 have o2:=hR.one
 obtain ⟨G0,eG0⟩:∃ G0,G0=h++[lacB L.T cv rv]:=⟨_,rfl⟩
 have x0:Ext h G0:=by rw [eG0];exact .app .refl
 have g0:G0[h.length]?=some (lacB L.T cv rv):=by rw [eG0];exact get_eq rfl
 have l0:G0.length=h.length+1:=by rw [eG0];simp
 obtain ⟨w1,H1,e1,x1,a,x,rfl,oa,hA,hD⟩:=run_found (base:=h.length) (h:=G0) (by omega) (hL0.ext x0)
 have ox:=hA.one
 have l1:=x1.len
 have hfew:(fndE L).1.length≤823543:=by
  by_cases c:(fndE L).2=0
  ·obtain ⟨c1,c2,c3⟩:=fndE_ok c
   rw [c3];exact fnd_few (chkL_iff.1 c1).n.2
  ·rw [fndE_no c];simp
 have hln:=hA.all.len (by omega)
 unfold lacB at eG0 g0
 refine callL_run func40 rfl rfl ?_
 by_cases c:(fndE L).2=7
 ·have t0:((fndE L).2=7)=True:=eq_true c
  have hsp:=@Nat.succ_ne_zero;repeat' (first|simp (disch:=first|exact dqb|fail) only [go_sem,↓reduceIte,hsp,← eG0,g0,e1,t0,hln]|refine WP_drw ?_|refine cnd_intro (fun hsp=>?_) fun hsp=>?_)
  refine fII rfl ?_ (x0.trans x1)
  unfold cntE
  rw [if_pos c]
 ·have t0:((fndE L).2=7)=False:=eq_false c
  have hsp:=@Nat.succ_ne_zero;repeat' (first|simp (disch:=first|exact dqb|fail) only [go_sem,↓reduceIte,hsp,← eG0,g0,e1,t0,hln]|refine WP_drw ?_|refine cnd_intro (fun hsp=>?_) fun hsp=>?_)
  refine fII rfl ?_ (x0.trans x1)
  unfold cntE
  rw [if_neg c]
end Go.AM
namespace Go.AM
open Go.Proofs.Try
def sortB (l:List Int):Bool:=decide (∀ i,i<l.length→0<i→l.getD (i-1) 0≤l.getD i 0)
theorem run_sorted {base:Nat} {h:Heap} {v:AVal} {l:List Int} (hI:Ints h v l):callL prog raw base (.fn 51 [] []) [v] h=some (.bool (sortB l),h):=by
 have hl:=hI.1.1
 refine callL_run func51 rfl rfl ?_
 have hsp:=@Nat.succ_ne_zero;repeat' (first|simp (disch:=first|exact dqb|fail) only [go_sem,hsp]|refine WP_drw ?_|refine cnd_intro (fun hsp=>?_) fun hsp=>?_)
 refine WP_loop (fun σ=>∃ c:Int,σ.fr 3=.int .i64 c∧σ.fr 0=v∧σ.h=h∧-1≤c∧c<l.length∧∀ i:Nat,c<i→i<l.length→l.getD (i-1) 0≤l.getD i 0) (fun σ=>match σ.fr 3 with|.int _ x=>(x+1).toNat|_=>0) ?_ ?_
 ·refine ⟨(l.length:Int)-1,?_,?_,rfl,by omega,by omega,fun i h1 h2=>by omega⟩
  ·simp (disch:=first|exact dqb|fail) only [go_sem]
  ·simp (disch:=first|exact dqb|fail) only [go_sem]
 ·rintro ⟨fr,hp⟩ ⟨c,r3,r0,rh,hc1,hc2,hP⟩
  dsimp only at r3 r0 rh
  subst rh
  by_cases hc:c > 0
  ·have hlt:(c > 0)=True:=eq_true hc
   obtain ⟨n,rfl⟩:=Int.eq_ofNat_of_zero_le (show 0≤c by omega)
   have e1:((n:Int)-1).toNat=n-1:=by omega
   by_cases hs:l.getD n 0<l.getD (n-1) 0
   ·have t2:(l.getD n 0<l.getD (n-1) 0)=True:=eq_true hs
    have hsp:=@Nat.succ_ne_zero;repeat' (first|simp (disch:=first|exact dqb|fail) only [go_sem,hsp,r3,r0,hlt,e1,t2]|refine WP_drw ?_|refine cnd_intro (fun hsp=>?_) fun hsp=>?_)
    refine fB (decide_eq_false fun hh=>?_).symm
    have:=hh n (by omega) (by omega)
    omega
   ·have t2:(l.getD n 0<l.getD (n-1) 0)=False:=eq_false hs
    have hsp:=@Nat.succ_ne_zero;repeat' (first|simp (disch:=first|exact dqb|fail) only [go_sem,hsp,r3,r0,hlt,e1,t2]|refine WP_drw ?_|refine cnd_intro (fun hsp=>?_) fun hsp=>?_)
    refine ⟨⟨(n:Int)-1,rfl,by omega,by omega,fun i h1 h2=>?_⟩,by omega⟩
    by_cases e:i=n
    ·subst e;omega
    ·exact hP i (by omega) h2
  ·have hlt:(c > 0)=False:=eq_false hc
   have hsp:=@Nat.succ_ne_zero;repeat' (first|simp (disch:=first|exact dqb|fail) only [go_sem,hsp,r3,r0,hlt]|refine WP_drw ?_|refine cnd_intro (fun hsp=>?_) fun hsp=>?_)
   exact fB (decide_eq_true fun i h1 h2=>hP i (by omega) h1).symm
attribute [go_sem] run_sorted
end Go.AM
namespace Go.AM
open Go.Proofs.Try
attribute [-go_sem] put_ne put_same
attribute [local go_sem ↓] put_if
theorem run_fit1 {base a b id p k:Nat} {h:Heap} {L:Lac} (ga:h[a]?=some (pB id)) (gb:h[b]?=some (nB (k:Int))) (hD:DskAt h id L) (hn:L.C.length≤7) (hp:p<L.C.length) (hk:k<L.C.length) :
  callL prog raw base (.fn 163 [] [.ptr (some ⟨a,0,0⟩),.ptr (some ⟨b,0,0⟩)]) [.int .i64 (p:Int)] h=some (.bool (fitB L p k),h):=by
 obtain ⟨cv,rv,hg,-,-⟩:=hD
 have la:=lt_of_get ga
 have lb:=lt_of_get gb
 have lid:=lt_of_get hg
 have ad1:=Fc.ad150 (id:=id) (ver:=0) (o:=3) (i:=(p:Int)) (by omega) (by omega)
 have ad2:=Fc.ad148 (id:=id) (ver:=0) (o:=3+p * 7) (i:=(k:Int)) (by omega) (by omega)
 rw [Int.toNat_natCast] at ad1 ad2
 rw [Nat.mul_one] at ad2
 have lb:=ld_dsk hg hn hp hk
 unfold pB at ga
 unfold nB at gb
 refine callL_run func163 rfl rfl ?_
 have hsp:=@Nat.succ_ne_zero;repeat' (first|simp (disch:=first|exact dqb|fail) only [go_sem,↓reduceIte,hsp,ga,gb,ad1,ad2,lb]|refine WP_drw ?_|refine cnd_intro (fun hsp=>?_) fun hsp=>?_)
 exact fB rfl
set_option maxHeartbeats 1000000 in
theorem run_fitting {base id:Nat} {h:Heap} {v:AVal} {L:Lac} {l:List Int} (hD:DskAt h id L) (hn:L.C.length≤7) (hI:Ints h v l) (hl:∀ x ∈ l,0≤x∧x<(L.C.length:Int)) :
  callL prog raw base (.fn 119 [] []) [.ptr (some ⟨id,0,0⟩),v] h=some (.int .i64 (fittN L l:Int),h):=by
 have hD0:=hD
 obtain ⟨cv,rv,hg,hC,hR⟩:=hD
 have lid:=lt_of_get hg
 have ov:=hI.one
 obtain ⟨G,eG⟩:∃ G,G=h++[pB id]:=⟨_,rfl⟩
 have xG:Ext h G:=by rw [eG];exact .app .refl
 have gp:G[h.length]?=some (pB id):=by rw [eG];exact get_eq rfl
 have lG:G.length=h.length+1:=by rw [eG];simp
 have lc:=ld_cards (xG.get hg)
 have hlc:=lenI (hC.ext xG)
 have gp':=gp
 unfold pB at eG gp'
 obtain ⟨f,ef⟩:∃ f:Int→Bool,f=fun k=>l.any fun p=>fitB L p.toNat k.toNat:=⟨_,rfl⟩
 refine callL_run func119 rfl rfl ?_
 have hsp:=@Nat.succ_ne_zero;repeat' (first|simp (disch:=first|exact dqb|fail) only [go_sem,↓reduceIte,hsp,← eG,gp',lc,hlc]|refine WP_drw ?_|refine cnd_intro (fun hsp=>?_) fun hsp=>?_)
 refine WP_count [(5,6),(13,21)] 0 L.C.length (Nat.zero_le _) (fun _ k fr H=>fr 13=.int .i64 (k:Int)∧Ext G H∧fr 5=.int .i64 ((((upto k).filter f).length:Nat):Int)) ?_ ?_ ?_
 ·exact ⟨by (simp (disch:=first|exact dqb|fail) only [go_sem,↓reduceIte,Int.natCast_zero];first|done|rfl),.refl,by simp (disch:=first|exact dqb|fail) only [go_sem,↓reduceIte];rfl⟩
 ·rintro k fr H hk0 hk hA ⟨r13,xH,r5⟩
  have q1:=hA 1 rfl
  have q2:=hA 2 rfl
  have q4:=hA 4 rfl
  have q12:=hA 12 rfl
  try simp (disch:=first|exact dqb|fail) only [go_sem,↓reduceIte] at q1 q2 q4 q12
  have hlt:((k:Int)<(L.C.length:Int))=True:=eq_true (by omega)
  have lH:=xH.len
  have hfl:((upto k).filter f).length≤k:=Nat.le_trans (List.length_filter_le _ _) (by rw [upto_len];omega)
  obtain ⟨K,eK⟩:∃ K,K=H++[nB (k:Int)]:=⟨_,rfl⟩
  have xK:Ext H K:=by rw [eK];exact .app .refl
  have gK:K[H.length]?=some (nB (k:Int)):=by rw [eK];exact get_eq rfl
  have xGK:=xH.trans xK
  have lK:=xGK.len
  have hany:=any_I (base:=h.length) (h:=K) (v:=v) (g:=.fn 163 [] [.ptr (some ⟨h.length,0,0⟩),.ptr (some ⟨H.length,0,0⟩)]) (l:=l) (fun p=>fitB L p.toNat k) (by omega) ⟨rfl,rfl,rfl⟩ (hI.ext (xG.trans xGK)) (fun x hx=>by
   have hx2:=hl x hx
   obtain ⟨p,rfl⟩:=Int.eq_ofNat_of_zero_le hx2.1
   exact run_fit1 (xGK.get gp) gK (hD0.ext (xG.trans xGK)) hn (by omega) hk)
  have hfk:l.any (fun p=>fitB L p.toNat k)=f (k:Int):=by rw [ef];simp only [Int.toNat_natCast]
  rw [hfk] at hany
  have hup:=upto_filt (f:=f) (k:=k)
  unfold nB at eK gK
  cases c:f (k:Int) with
  | true =>
   rw [c] at hany hup
   rw [if_pos rfl] at hup
   have hlen:(((upto k).filter f).length:Int)+1=((((upto (k+1)).filter f).length:Nat):Int):=by rw [hup];simp
   have hsp:=@Nat.succ_ne_zero;repeat' (first|simp (disch:=first|exact dqb|fail) only [go_sem,↓reduceIte,hsp,r13,r5,q1,q2,q4,q12,hlt,← eK,hany]|refine WP_drw ?_|refine cnd_intro (fun hsp=>?_) fun hsp=>?_)
   exact ⟨agq,by omega,xGK,hlen⟩
  | false =>
   rw [c] at hany hup
   rw [if_neg (by simp),List.append_nil] at hup
   have hsp:=@Nat.succ_ne_zero;repeat' (first|simp (disch:=first|exact dqb|fail) only [go_sem,↓reduceIte,hsp,r13,r5,q1,q2,q4,q12,hlt,← eK,hany]|refine WP_drw ?_|refine cnd_intro (fun hsp=>?_) fun hsp=>?_)
   exact ⟨agq,by omega,xGK,by rw [hup]⟩
 ·rintro fr H hA ⟨r13,xH,r5⟩
  have q1:=hA 1 rfl
  have q2:=hA 2 rfl
  have q4:=hA 4 rfl
  have q12:=hA 12 rfl
  try simp (disch:=first|exact dqb|fail) only [go_sem,↓reduceIte] at q1 q2 q4 q12
  have hlt:((L.C.length:Int)<(L.C.length:Int))=False:=eq_false (by omega)
  have hsp:=@Nat.succ_ne_zero;repeat' (first|simp (disch:=first|exact dqb|fail) only [go_sem,↓reduceIte,hsp,r13,r5,q1,q2,q4,q12,hlt]|refine WP_drw ?_|refine cnd_intro (fun hsp=>?_) fun hsp=>?_)
  refine fI ?_ (xG.trans xH)
  rw [ef];rfl
theorem run_pos {base:Nat} {h:Heap} {T x:Int} {cv rv:AVal} {l:List Int} (hC:Ints h cv l) (o2:One rv):callL prog raw base (.fn 113 [.agg [.int .i64 T,cv,rv]] []) [.int .i64 x] h=some (.bool (decide (0≤x∧x≤(l.length:Int)-1)),h):=by
 have o1:=hC.one
 have hb:=hC.1.1
 obtain ⟨G,eG⟩:∃ G,G=h++[lacB T cv rv]:=⟨_,rfl⟩
 have xG:Ext h G:=by rw [eG];exact .app .refl
 have g0:G[h.length]?=some (lacB T cv rv):=by rw [eG];exact get_eq rfl
 have hl:=lenI (hC.ext xG)
 unfold lacB at eG g0
 refine callL_run func113 rfl rfl ?_
 have hsp:=@Nat.succ_ne_zero;repeat' (first|simp (disch:=first|exact dqb|fail) only [go_sem,↓reduceIte,hsp,← eG,g0,hl]|refine WP_drw ?_|refine cnd_intro (fun hsp=>?_) fun hsp=>?_)
 exact fB rfl xG
def gpsE (L:Lac) (gap:List Int):Int × Int :=
 if chkL L ≠ 0 then (0,chkL L) else if ¬ (gap.all fun x=>decide (0≤x∧x≤(L.C.length:Int)-1))=true then (0,1) else if gap=[] ∨ sortB gap=false ∨ twB gap=true then (0,4) else
 if (gap.length:Int)-fittN L gap<1 then (0,6) else ((gap.length:Int)-fittN L gap,0)
set_option maxHeartbeats 2000000 in
theorem run_Gapes {base:Nat} {h:Heap} {v gv:AVal} {L:Lac} {gap:List Int} (hL:LacAt h v L) (hG:Ints h gv gap) :
  callL prog raw base (.fn 54 [] []) [v,gv] h=some (.tuple [.int .i64 (gpsE L gap).1,.int .i64 (gpsE L gap).2],h):=by
 have hL0:=hL
 obtain ⟨cv,rv,rfl,hC,hR⟩:=hL
 have o1:=hC.one
 have o2:=hR.one
 have o3:=hG.one
 have hgb:=hG.1.1
 obtain ⟨G0,eG0⟩:∃ G0,G0=h++[lacB L.T cv rv]:=⟨_,rfl⟩
 have x0:Ext h G0:=by rw [eG0];exact .app .refl
 have g0:G0[h.length]?=some (lacB L.T cv rv):=by rw [eG0];exact get_eq rfl
 have l0:G0.length=h.length+1:=by rw [eG0];simp
 obtain ⟨w1,H1,e1,x1,r1,r2⟩:=run_opened (base:=h.length) (h:=G0) (by omega) (hL0.ext x0)
 have l1:=x1.len
 have g1:=x1.get g0
 unfold lacB at eG0 g0 g1
 refine callL_run func54 rfl rfl ?_
 by_cases c0:chkL L=0
 ·obtain ⟨id,rfl,hid,hD⟩:=r2 c0
  have kn:=(chkL_iff.1 c0).n
  have xh:=x0.trans x1
  obtain ⟨H2,eH2⟩:∃ H2,H2=H1++[evB (.fn 113 [.agg [.int .i64 L.T,cv,rv]] [])]:=⟨_,rfl⟩
  have x2:Ext H1 H2:=by rw [eH2];exact .app .refl
  have xh2:=xh.trans x2
  have hev:=every_I (base:=h.length) (h:=H1) (v:=gv) (g:=.fn 113 [.agg [.int .i64 L.T,cv,rv]] []) (l:=gap) (fun x=>decide (0≤x∧x≤(L.C.length:Int)-1)) (by omega) ⟨rfl,rfl,rfl⟩ (hG.ext xh) (fun x _=>run_pos (hC.ext (xh.trans (.app .refl))) o2)
  rw [← eH2] at hev
  have hGl:=lenI (hG.ext xh2)
  have hst:=fun base=>run_sorted (base:=base) (hG.ext xh2)
  have htw:=fun base=>run_twice (base:=base) (hG.ext xh2)
  cases c1:gap.all (fun x=>decide (0≤x∧x≤(L.C.length:Int)-1)) with
  | false =>
   rw [c1] at hev
   have hsp:=@Nat.succ_ne_zero;repeat' (first|simp (disch:=first|exact dqb|fail) only [go_sem,↓reduceIte,hsp,← eG0,g0,e1,eq_self,g1,hev]|refine WP_drw ?_|refine cnd_intro (fun hsp=>?_) fun hsp=>?_)
   have r:gpsE L gap=(0,1):=by unfold gpsE;rw [if_neg (by simp [c0]),if_pos (by rw [c1];simp)]
   rw [r]
   exact fII rfl rfl xh2
  | true =>
   rw [c1] at hev
   have hin:∀ x ∈ gap,0≤x∧x<(L.C.length:Int):=fun x hx=>by have:=of_decide_eq_true (List.all_eq_true.1 c1 x hx);omega
   have hft:=fun base=>run_fitting (base:=base) (hD.ext x2) kn.2 (hG.ext xh2) hin
   have hfn:fittN L gap≤7:=Nat.le_trans (List.length_filter_le _ _) (by rw [upto_len];exact kn.2)
   have u1:¬ (¬ (gap.all fun x=>decide (0≤x∧x≤(L.C.length:Int)-1))=true):=by rw [c1];simp
   by_cases c2:gap=[]
   ·have t2:((gap.length:Int)=0)=True:=eq_true (by rw [c2];rfl)
    have hsp:=@Nat.succ_ne_zero;repeat' (first|simp (disch:=first|exact dqb|fail) only [go_sem,↓reduceIte,hsp,← eG0,g0,e1,eq_self,g1,hev,hGl,t2]|refine WP_drw ?_|refine cnd_intro (fun hsp=>?_) fun hsp=>?_)
    have r:gpsE L gap=(0,4):=by unfold gpsE;rw [if_neg (by simp [c0]),if_neg u1,if_pos (.inl c2)]
    rw [r]
    exact fII rfl rfl xh2
   ·have hgp:0<gap.length:=by cases q:gap with|nil=>exact absurd q c2|cons a b=>simp
    have t2:((gap.length:Int)=0)=False:=eq_false (by omega)
    cases c3:sortB gap with
    | false =>
     rw [c3] at hst
     have hsp:=@Nat.succ_ne_zero;repeat' (first|simp (disch:=first|exact dqb|fail) only [go_sem,↓reduceIte,hsp,← eG0,g0,e1,eq_self,g1,hev,hGl,t2,hst]|refine WP_drw ?_|refine cnd_intro (fun hsp=>?_) fun hsp=>?_)
     have r:gpsE L gap=(0,4):=by unfold gpsE;rw [if_neg (by simp [c0]),if_neg u1,if_pos (.inr (.inl c3))]
     rw [r]
     exact fII rfl rfl xh2
    | true =>
     rw [c3] at hst
     cases c4:twB gap with
     | true =>
      rw [c4] at htw
      have hsp:=@Nat.succ_ne_zero;repeat' (first|simp (disch:=first|exact dqb|fail) only [go_sem,↓reduceIte,hsp,← eG0,g0,e1,eq_self,g1,hev,hGl,t2,hst,htw]|refine WP_drw ?_|refine cnd_intro (fun hsp=>?_) fun hsp=>?_)
      have r:gpsE L gap=(0,4):=by unfold gpsE;rw [if_neg (by simp [c0]),if_neg u1,if_pos (.inr (.inr c4))]
      rw [r]
      exact fII rfl rfl xh2
     | false =>
      rw [c4] at htw
      have u2:¬ (gap=[] ∨ sortB gap=false ∨ twB gap=true):=by rw [c3,c4];simp [c2]
      by_cases c5:(gap.length:Int)-fittN L gap<1
      ·have t5:((gap.length:Int)-(fittN L gap:Int)<1)=True:=eq_true c5
       have hsp:=@Nat.succ_ne_zero;repeat' (first|simp (disch:=first|exact dqb|fail) only [go_sem,↓reduceIte,hsp,← eG0,g0,e1,eq_self,g1,hev,hGl,t2,hst,htw,hft,t5]|refine WP_drw ?_|refine cnd_intro (fun hsp=>?_) fun hsp=>?_)
       have r:gpsE L gap=(0,6):=by unfold gpsE;rw [if_neg (by simp [c0]),if_neg u1,if_neg u2,if_pos c5]
       rw [r]
       exact fII rfl rfl xh2
      ·have t5:((gap.length:Int)-(fittN L gap:Int)<1)=False:=eq_false c5
       have hsp:=@Nat.succ_ne_zero;repeat' (first|simp (disch:=first|exact dqb|fail) only [go_sem,↓reduceIte,hsp,← eG0,g0,e1,eq_self,g1,hev,hGl,t2,hst,htw,hft,t5]|refine WP_drw ?_|refine cnd_intro (fun hsp=>?_) fun hsp=>?_)
       have r:gpsE L gap=((gap.length:Int)-fittN L gap,0):=by unfold gpsE;rw [if_neg (by simp [c0]),if_neg u1,if_neg u2,if_neg c5]
       rw [r]
       exact fII rfl rfl xh2
 ·have t0:(chkL L=0)=False:=eq_false c0
  have r:=r1 c0
  subst r
  have hsp:=@Nat.succ_ne_zero;repeat' (first|simp (disch:=first|exact dqb|fail) only [go_sem,↓reduceIte,hsp,← eG0,g0,e1,t0,g1]|refine WP_drw ?_|refine cnd_intro (fun hsp=>?_) fun hsp=>?_)
  have re:gpsE L gap=(0,chkL L):=by unfold gpsE;rw [if_pos c0]
  rw [re]
  exact fII rfl rfl (x0.trans x1)
end Go.AM
namespace Go.AM
open Go.Proofs.Try
def Off (X:List Nat) (v:AVal):Prop:=∀ r n c,v=.slice (some r) n c→r.id ∉ X
def KeepX (ob:Nat) (H H':Heap):Prop:=H.length≤H'.length∧∀ i b,i ≠ ob→H[i]?=some b→H'[i]?=some b
section
variable {ob:Nat} {H H' H2 h:Heap}
end
end Go.AM
namespace Go.AM
open Go.Proofs.Try
attribute [-go_sem] put_ne put_same
attribute [local go_sem ↓] put_if
def mrV (M O S D R:Nat):AVal:=.fn 161 [] [.ptr (some ⟨M,0,0⟩),.ptr (some ⟨O,0,0⟩),.ptr (some ⟨S,0,0⟩),.ptr (some ⟨D,0,0⟩),.ptr (some ⟨R,0,0⟩)]
abbrev mrB (f:AVal):ABlk:=⟨.cells [f] 73 false false,0⟩
structure FrsAt (h H:Heap) (M O S D R many id:Nat) (g:AVal):Prop where
 ext:Ext h H
 ne:M ≠ O∧S ≠ O∧D ≠ O∧R ≠ O
 m:H[M]?=some (nB (many:Int))
 s:H[S]?=some (fnB g)
 d:H[D]?=some (pB id)
 r:H[R]?=some (mrB (mrV M O S D R))
def OutI (O:Nat) (o:Option (List Int)) (H:Heap):Prop:=∃ v,H[O]?=some (lB v)∧match o with|none=>v=.slice none 0 0|some l=>Own encI 3 (O+1) H v l
section
variable {base M O S D R many id:Nat} {h:Heap} {g:AVal} {L:Lac} {p:List Int→Bool}
end
end Go.AM
namespace Go.AM
open Go.Proofs.Try
attribute [-go_sem] put_ne put_same
attribute [local go_sem ↓] put_if
def preS (n i:Nat):List (List Int):=(List.range i).flatMap fun m=>lexC (upto n) m [] 0
theorem preS_all {n:Nat}:preS n (n+1)=allS n:=rfl
def ResI (b:Nat) (o:Option (List Int)) (H:Heap) (x:AVal):Prop:=match o with|none=>x=.slice none 0 0|some l=>Own encI 3 b H x l
end Go.AM
namespace Go.AM
open Go.Proofs.Try
attribute [-go_sem] put_ne put_same
attribute [local go_sem ↓] put_if
def gapE (L:Lac):Int:=if chkL L=0 then (if gapO L=none then 6 else 0) else chkL L
end Go.AM
namespace Go.AM
open Go.Proofs.Try
attribute [-go_sem] put_ne put_same
attribute [local go_sem ↓] put_if
def mpK (ks:List (List Int)):List (AVal × AVal):=ks.map fun k=>(.agg (ints k),.bool true)
end Go.AM
namespace Go.AM
open Go.Proofs.Try
attribute [-go_sem] put_ne put_same
attribute [local go_sem ↓] put_if
theorem ev_str {fr:AFrame} {s:ByteArray}:ev fr (.const (.string s))=.str s:=rfl
def lenT (n:Nat):Nat:=[0,1,2,2,3,3,3,3,4,4,4,4,4].getD n 0
def Srt (m:List Int) (i j:Nat):Prop:=∀ a b,a<b→b≤i→b ≠ j→m.getD a 0≤m.getD b 0
def swp (m:List Int) (j:Nat):List Int:=(m.set (j+1) (m.getD j 0)).set j (m.getD (j+1) 0)
theorem getD_setI {l:List Int} {i j:Nat} {b:Int} (hi:i<l.length):(l.set i b).getD j 0=if i=j then b else l.getD j 0:=by
 rw [List.getD_eq_getElem?_getD,List.getElem?_set,List.getD_eq_getElem?_getD]
 by_cases e:i=j
 ·subst e;simp [hi]
 ·simp [e]
abbrev srB (m:List Int) (e:TypeId) (ver:Nat):ABlk:=⟨.cells (ints m) e true false,ver⟩
def srtL (l:List Int):List Int:=l.mergeSort fun a b=>decide (a≤b)
end Go.AM
namespace Go.AM
open Go.Proofs.Try
theorem dqc {p:Prop} (h:p:=by first|exact Nat.ne_of_beq_eq_false rfl|assumption|(apply asOne;(first|exact One.int|exact One.bool|assumption|exact Ints.one (by assumption)|exact Rows.one (by assumption)|exact Own.one (by assumption)|exact One.lit ⟨rfl,rfl,rfl⟩))|(apply asSp;(repeat first|assumption|apply SpAt.set|(refine SpAt.new ?_ (by (first|rfl|(simp only [List.length_append,List.length_cons,List.length_nil,List.length_set];done)|(simp only [List.length_append,List.length_cons,List.length_nil,List.length_set];omega))))|apply SpAt.app|apply Bytes.app);done)|(apply asBytes;(repeat first|assumption|apply Bytes.app);done)|(apply asInts;(repeat first|assumption|exact ints_nil|apply Ints.app);done)|(apply asRows;(repeat first|assumption|exact Rows.nil|apply Rows.app);done)|(apply asScal;(first|apply allS1|apply allS2|apply allS3|apply allS4)<;>(first|exact One.int|exact One.bool|assumption|exact Ints.one (by assumption)|exact Rows.one (by assumption)|exact Own.one (by assumption)|exact One.lit ⟨rfl,rfl,rfl⟩))|exact litT rfl|exact litF rfl|omega|(simp only [List.length_append,List.length_cons,List.length_nil,List.length_set,List.length_reverse];first|done|omega)|fail):p:=h
attribute [-go_sem] put_ne put_same
attribute [local go_sem ↓] put_if
theorem set_perm {a:List Int} {j:Nat} {x:Int} (hj:j<a.length):(a.set j x++[a.getD j 0]).Perm (a++[x]):=by
 have e1:a=a.take j++a.getD j 0 :: a.drop (j+1):=by
  conv=>lhs;rw [← List.take_append_drop j a]
  rw [List.drop_eq_getElem_cons hj,List.getD_eq_getElem?_getD,List.getElem?_eq_getElem hj];rfl
 have hl:(a.take j).length=j:=by rw [List.length_take];omega
 have e2:a.set j x=a.take j++x :: a.drop (j+1):=by
  generalize a.getD j 0=y at e1
  conv=>lhs;rw [e1]
  rw [List.set_append_right _ _ (by omega),hl,Nat.sub_self]
  rfl
 rw [e2]
 conv=>rhs;rw [e1]
 generalize a.take j=p
 generalize a.drop (j+1)=q
 generalize a.getD j 0=y
 simp only [List.append_assoc,List.cons_append]
 refine List.Perm.append_left p ?_
 refine (List.perm_append_comm (l₁:=x :: q) (l₂:=[y])).trans ?_
 exact (List.Perm.cons y (List.perm_append_comm (l₁:=[x]) (l₂:=q)))
theorem rep_zero:∀ n,repCells [AVal.int .i64 0] n=ints (List.replicate n 0)
 | 0=>rfl
 | n+1=>by rw [repCells,rep_zero n];rfl
theorem ord_step {a r:List Int} {j k n:Nat} (hk:a.length=k) (hj:j≤k) (hp:a.Perm (upto k)):∃ a',a'.length=k+1∧a'.Perm (upto (k+1))∧((a++List.replicate (n+1) 0).set k ((a++List.replicate (n+1) 0).getD j 0)).set j (k:Int)=a'++List.replicate n 0:=by
 rw [List.replicate_succ,upto_succ]
 by_cases e:j=k
 ·subst e
  refine ⟨a++[(j:Int)],by simp [hk],hp.append_right _,?_⟩
  rw [List.set_set,List.set_append_right _ _ (by omega),show j-a.length=0 by omega]
  simp
 ·have hja:j<a.length:=by omega
  refine ⟨a.set j k++[a.getD j 0],by simp [hk],(set_perm hja).trans (hp.append_right _),?_⟩
  rw [List.set_append_right _ _ (by omega),show k-a.length=0 by omega,List.set_cons_zero,List.set_append_left _ _ hja,List.append_assoc]
  rw [List.getD_eq_getElem?_getD,List.getElem?_append_left hja,← List.getD_eq_getElem?_getD]
  rfl
set_option maxHeartbeats 1000000 in
theorem run_order {base id k0 n:Nat} {h:Heap} {v:AVal} {silk:List Int} (hb:base≤h.length) (hS:SpAt h id v silk k0) (hk:k0+n≤900000) (hn:n≤1000) :
  Ret prog raw base (.fn 19 [] []) [.ptr (some ⟨id,0,0⟩),.int .i64 (n:Int)] h (fun w H=>SpE h id v silk (k0+n) H∧∃ l,OwnE encI 3 h.length H w l∧l.Perm (upto n)):=by
 have hid:=lt_of_get hS.1
 refine ret_raw func19 rfl (by kernel_rfl) ?_
 have hm:max 0 (n:Int)=(n:Int):=by omega
 cases n with
 | zero =>
  have hlt:((0:Int)<0)=False:=eq_false (by omega)
  have mk:makeSliceA prog h 25 (.int .i64 0) (.int .i64 0)=some (.emp,h):=by simp [makeSliceA,Fc.el25]
  have le:lenOpA prog h 25 .emp=some (.int .i64 0):=by simp [lenOpA,Fc.el25,lenA]
  have hsp:=@Nat.succ_ne_zero;repeat' (first|simp (disch:=first|exact dqc|fail) only [go_sem,↓reduceIte,hsp,Int.natCast_zero,show max (0:Int) 0=0 from rfl,mk,le]|refine WP_drw ?_|refine cnd_intro (fun hsp=>?_) fun hsp=>?_)
  rw [WP_loop1]
  have hsp:=@Nat.succ_ne_zero;repeat' (first|simp (disch:=first|exact dqc|fail) only [go_sem,↓reduceIte,hsp,hlt]|refine WP_drw ?_|refine cnd_intro (fun hsp=>?_) fun hsp=>?_)
  exact ⟨SpE.refl hS,[],.inr ⟨rfl,rfl⟩,.refl _⟩
 | succ n =>
  have mk:makeSliceA prog h 25 (.int .i64 ((n+1:Nat):Int)) (.int .i64 ((n+1:Nat):Int))=some (.slice (some ⟨h.length,0,0⟩) (n+1) (n+1),h++[srB (List.replicate (n+1) 0) 3 0]):=by
   simp only [makeSliceA,Fc.el25]
   rw [if_pos ⟨by omega,by omega,by omega⟩,if_neg (by omega),Int.toNat_natCast,rep_zero]
  have le:∀ {H:Heap},lenOpA prog H 25 (.slice (some ⟨h.length,0,0⟩) (n+1) (n+1))=some (.int .i64 ((n+1:Nat):Int)):=fun {H}=>by simp [lenOpA,Fc.el25,lenA]
  have hsp:=@Nat.succ_ne_zero;repeat' (first|simp (disch:=first|exact dqc|fail) only [go_sem,↓reduceIte,hsp,hm,mk,le]|refine WP_drw ?_|refine cnd_intro (fun hsp=>?_) fun hsp=>?_)
  refine WP_count [(6,7),(13,30)] 0 (n+1) (Nat.zero_le _) (fun _ i fr h'=>fr 13=.int .i64 (i:Int)∧∃ a:List Int,a.length=i∧a.Perm (upto i)∧h'=h.set id (spB v silk (k0+i))++[srB (a++List.replicate (n+1-i) 0) 3 0]) ?_ ?_ ?_
  ·refine ⟨by (simp (disch:=first|exact dqc|fail) only [go_sem,↓reduceIte,Int.natCast_zero];first|done|rfl),[],rfl,.refl _,?_⟩
   have e:=set_id hS.1
   show _=h.set id (spB v silk k0)++_
   rw [e];rfl
  ·rintro i fr H hi0 hi hA ⟨p13,a,hl,hp,eH⟩
   have p0:=hA 0 rfl
   have p4:=hA 4 rfl
   have p5:=hA 5 rfl
   have p12:=hA 12 rfl
   try simp (disch:=first|exact dqc|fail) only [go_sem,↓reduceIte] at p0 p4 p5 p12
   have hlt:((i:Int)<((n+1:Nat):Int))=True:=eq_true (by omega)
   have hSp:SpAt H id v silk (k0+i):=by rw [eH];exact hS.set.app
   have up1:=up_bd (silk:=silk) (k:=k0+i) (n:=(i:Int)) (by omega)
   obtain ⟨j,ej⟩:=Int.eq_ofNat_of_zero_le up1.1
   obtain ⟨q,eq⟩:∃ q,n+1-i=q+1:=⟨n-i,by omega⟩
   obtain ⟨m,em⟩:∃ m,m=a++List.replicate (q+1) (0:Int):=⟨_,rfl⟩
   have hml:m.length=n+1:=by rw [em];simp;omega
   rw [eq,← em] at eH
   obtain ⟨G,eG⟩:∃ G,G=H.set id (spB v silk (k0+i+1)):=⟨_,rfl⟩
   have eG2:G=h.set id (spB v silk (k0+i+1))++[srB m 3 0]:=by
    rw [eG,eH,List.set_append_left _ _ (by simpa using hid),List.set_set]
   have gG:G[h.length]?=some ⟨.cells (ints m) 3 true false,0⟩:=by rw [eG2];exact get_eq (by simp)
   have ru:=fun base=>run_upto (base:=base) (n:=(i:Int)) hSp (by omega) (by omega)
   rw [← eG,ej] at ru
   have adr:∀ x:Nat,x<n+1→indexAddrA prog 25 (.slice (some ⟨h.length,0,0⟩) (n+1) (n+1)) (.int .i64 (x:Int))=some (.ptr (some ⟨h.length,0,x⟩)):=fun x hx=>by
    rw [adr_sl Fc.el25 Fc.ar25 (by omega) (by omega),Int.toNat_natCast,Nat.mul_one,Nat.zero_add]
   have a1:=adr j (by omega)
   have a2:=adr i (by omega)
   have d1:loadP prog G 3 (.ptr (some ⟨h.length,0,j⟩))=some (.int .i64 (m.getD j 0)):=by
    rw [load_eq,Fc.ty3,gG];exact ldB_ints (by omega)
   have st1:∀ {K:ABlk→Heap},stQ base h.length (some ⟨.cells (ints m) 3 true false,0⟩) 0 i [.int .i64 (m.getD j 0)] K=some (K ⟨.cells (ints (m.set i (m.getD j 0))) 3 true false,0⟩):=fun {K}=>stQ_ints (by omega)
   have st2:∀ {K:ABlk→Heap},stQ base h.length (some ⟨.cells (ints (m.set i (m.getD j 0))) 3 true false,0⟩) 0 j [.int .i64 (i:Int)] K=some (K ⟨.cells (ints ((m.set i (m.getD j 0)).set j (i:Int))) 3 true false,0⟩):=fun {K}=>stQ_ints (by simp;omega)
   obtain ⟨G3,eG3⟩:∃ G3,G3=G.set h.length ⟨.cells (ints (m.set i (m.getD j 0))) 3 true false,0⟩:=⟨_,rfl⟩
   have g3:G3[h.length]?=some ⟨.cells (ints (m.set i (m.getD j 0))) 3 true false,0⟩:=by rw [eG3,List.getElem?_set_self (lt_of_get gG)]
   obtain ⟨a',h1,h2,h3⟩:=ord_step (r:=[]) (n:=q) hl (show j≤i by omega) hp
   rw [← em] at h3
   have hsp:=@Nat.succ_ne_zero;repeat' (first|simp (disch:=first|exact dqc|fail) only [go_sem,↓reduceIte,hsp,p0,p4,p5,p12,p13,hlt,ru,a1,a2,d1,gG,st1,← eG3,g3,st2]|refine WP_drw ?_|refine cnd_intro (fun hsp=>?_) fun hsp=>?_)
   refine ⟨agq,by omega,a',h1,h2,?_⟩
   rw [h3,eG3,eG2,List.set_set,List.set_append_right _ _ (by simp),List.length_set,Nat.sub_self,show n+1-(i+1)=q by omega]
   rfl
  ·rintro fr H hA ⟨p13,a,hl,hp,eH⟩
   have p0:=hA 0 rfl
   have p4:=hA 4 rfl
   have p5:=hA 5 rfl
   have p12:=hA 12 rfl
   try simp (disch:=first|exact dqc|fail) only [go_sem,↓reduceIte] at p0 p4 p5 p12
   have hlt:(((n+1:Nat):Int)<((n+1:Nat):Int))=False:=eq_false (by omega)
   have hsp:=@Nat.succ_ne_zero;repeat' (first|simp (disch:=first|exact dqc|fail) only [go_sem,↓reduceIte,hsp,p0,p4,p5,p12,p13,hlt]|refine WP_drw ?_|refine cnd_intro (fun hsp=>?_) fun hsp=>?_)
   rw [Nat.sub_self,List.replicate_zero,List.append_nil] at eH
   refine ⟨by rw [eH];exact Ext.app .refl,a,.inl (.inr ⟨h.length,0,by rw [hl],by rw [eH,show srB a 3 0=rowE encI 3 a 0 by unfold rowE;rw [flat_encI]];exact get_eq (by simp),Nat.le_refl _,by omega⟩),hp⟩
end Go.AM
