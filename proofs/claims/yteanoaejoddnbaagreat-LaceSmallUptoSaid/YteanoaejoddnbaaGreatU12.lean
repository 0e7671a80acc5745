/-
  Contracts: the place of a number in a list, and whether it is there.
-/
import Derived.Test.YteanoaejoddnbaaGreatU11
set_option linter.unusedSimpArgs false
set_option linter.unusedVariables false
namespace Go.AM
open Go.Proofs.Tryz
def ixI (l:List Int) (x:Int):Int:=if x ∈ l then (l.idxOf x:Nat) else -1
theorem ixI_ge {l:List Int} {x:Int}:(ixI l x ≥ 0)=(x ∈ l):=by
 unfold ixI
 by_cases h:x ∈ l
 ·rw [if_pos h];exact propext ⟨fun _=>h,fun _=>by omega⟩
 ·rw [if_neg h];exact propext ⟨fun q=>by omega,fun q=>absurd q h⟩
theorem ixI_at:∀ {l:List Int} {x:Int} {n:Nat},n<l.length→l.getD n 0=x→(∀ j,j<n→l.getD j 0 ≠ x)→ixI l x=(n:Int):=by
 intro l x n hn he hj
 have hm:x ∈ l:=by
  rw [← he,List.getD_eq_getElem?_getD,List.getElem?_eq_getElem hn]
  exact List.getElem_mem hn
 rw [ixI,if_pos hm]
 have h2:=List.getElem_idxOf (List.idxOf_lt_length_of_mem hm)
 have h3:=List.idxOf_lt_length_of_mem hm
 have g:∀ k,(hk:k<l.length)→l.getD k 0=l[k]:=fun k hk=>by rw [List.getD_eq_getElem?_getD,List.getElem?_eq_getElem hk];rfl
 have a1:¬ l.idxOf x<n:=fun q=>hj _ q (by rw [g _ h3];exact h2)
 have a2:¬ n<l.idxOf x:=fun q=>by
  have:=List.not_of_lt_findIdx (p:=(· == x)) (xs:=l) (i:=n) q
  rw [g _ hn] at he
  simp [he] at this
 omega
theorem ixI_no {l:List Int} {x:Int} (hj:∀ j,j<l.length→l.getD j 0 ≠ x):ixI l x=-1:=by
 refine if_neg fun q=>?_
 obtain ⟨i,hi,e⟩:=List.getElem_of_mem q
 exact hj i hi (by rw [List.getD_eq_getElem?_getD,List.getElem?_eq_getElem hi];exact e)
theorem run_index {base:Nat} {h:Heap} {a:AVal} {l:List Int} {x:Int} (ha:Ints h a l):callL prog raw base (.fn 26 [] []) [a,.int .i64 x] h=some (.int .i64 (ixI l x),h):=by
 have hl:=ha.1.1
 refine callL_run func26 rfl rfl ?_
 have hsp:=@Nat.succ_ne_zero;repeat' (first|simp (disch:=first|exact dq|fail) only [go_sem,hsp]|refine WP_drw ?_|refine cnd_intro (fun hsp=>?_) fun hsp=>?_)
 refine WP_loop (fun σ=>∃ n:Nat,σ.fr 8=.int .i64 (n:Int)∧σ.fr 0=a∧σ.fr 1=.int .i64 x∧σ.fr 7=.int .i64 (l.length:Int)∧σ.h=h∧n≤l.length∧(∀ j,j<n→l.getD j 0 ≠ x)) (fun σ=>match σ.fr 8 with|.int _ x=>(((l.length:Nat):Int)-x).toNat|_=>0) ?_ ?_
 ·refine ⟨0,?_,?_,?_,?_,?_,by omega,?_⟩
  iterate 5 focus (first|rfl|(simp (disch:=first|exact dq|fail) only [go_sem,Int.natCast_zero];first|done|rfl))
  intro j hj;omega
 ·rintro ⟨fr,hp⟩ ⟨n,r8,r0,r1,r7,rh,hi,hP⟩
  dsimp only at r8 r0 r1 r7 rh hi hP
  subst rh
  by_cases hn:n<l.length
  ·have hlt:((n:Int)<(l.length:Int))=True:=eq_true (by omega)
   by_cases he:x=l.getD n 0
   ·have t2:(x=l.getD n 0)=True:=eq_true he
    have hsp:=@Nat.succ_ne_zero;repeat' (first|simp (disch:=first|exact dq|fail) only [go_sem,hsp,r8,r0,r1,r7,hlt,t2]|refine WP_drw ?_|refine cnd_intro (fun hsp=>?_) fun hsp=>?_)
    exact fI (ixI_at hn he.symm hP).symm
   ·have t2:(x=l.getD n 0)=False:=eq_false he
    have hsp:=@Nat.succ_ne_zero;repeat' (first|simp (disch:=first|exact dq|fail) only [go_sem,hsp,r8,r0,r1,r7,hlt,t2]|refine WP_drw ?_|refine cnd_intro (fun hsp=>?_) fun hsp=>?_)
    refine ⟨⟨n+1,by simp,by omega,fun j hj=>?_⟩,by omega⟩
    by_cases e:j=n
    ·subst e;exact fun q=>he q.symm
    ·exact hP j (by omega)
  ·have hlt:((n:Int)<(l.length:Int))=False:=eq_false (by omega)
   have hsp:=@Nat.succ_ne_zero;repeat' (first|simp (disch:=first|exact dq|fail) only [go_sem,hsp,r8,r0,r1,r7,hlt]|refine WP_drw ?_|refine cnd_intro (fun hsp=>?_) fun hsp=>?_)
   exact fI (ixI_no fun j hj=>hP j (by omega)).symm
theorem run_contains {base:Nat} {h:Heap} {a:AVal} {l:List Int} {x:Int} (ha:Ints h a l):callL prog raw base (.fn 25 [] []) [a,.int .i64 x] h=some (.bool (decide (x ∈ l)),h):=by
 have e:=fun base=>@run_index base h a l x ha
 have e2:=@ixI_ge l x
 refine callL_run func25 rfl rfl ?_
 have hsp:=@Nat.succ_ne_zero;repeat' (first|simp (disch:=first|exact dq|fail) only [go_sem,hsp,e,e2]|refine WP_drw ?_|refine cnd_intro (fun hsp=>?_) fun hsp=>?_)
 exact fB rfl
end Go.AM
namespace Go.AM
def stp (o1 o2:List Int) (p:Nat):Nat:=o2.idxOf (o1.getD p 0)
def itr (o1 o2:List Int) (a:Nat):Nat→Nat
 | 0=>a
 | i+1=>stp o1 o2 (itr o1 o2 a i)
def rngL (o1 o2:List Int) (a r:Nat):List Int:=lst (fun i=>(itr o1 o2 a i:Int)) r
theorem ord_at {n:Nat} {o:List Int} (h:Ord n o) {i:Nat} (hi:i<n):o.getD i 0 ∈ o∧0≤o.getD i 0∧o.getD i 0<(n:Int):=by
 have hm:o.getD i 0 ∈ o:=getD_mem' (by rw [h.1];exact hi)
 exact ⟨hm,h.2.1 _ hm⟩
theorem ord_inj {n:Nat} {o:List Int} (h:Ord n o) {i j:Nat} (hi:i<n) (hj:j<n) (e:o.getD i 0=o.getD j 0):i=j:=by
 rw [getD_at (show i<o.length by rw [h.1];exact hi),getD_at (show j<o.length by rw [h.1];exact hj)] at e
 exact nodup_inj h.2.2 _ _ e
theorem ord_all {n:Nat} {o:List Int} (h:Ord n o) {x:Int} (hx:0≤x∧x<(n:Int)):x ∈ o:=by
 refine Classical.byContradiction fun q=>?_
 have hn:(x :: o).Nodup:=List.nodup_cons.2 ⟨q,h.2.2⟩
 have:=pigeon (R:=fun (a:Int) (b:Nat)=>a=(b:Int)) (t:=List.range n) hn (fun a ha=>by
  have ha':0≤a∧a<(n:Int):=by
   rcases List.mem_cons.1 ha with e|e
   ·rw [e];exact hx
   ·exact h.2.1 a e
  exact ⟨a.toNat,List.mem_range.2 (by omega),by omega⟩) (fun a _ c _ b _ h1 h2=>h1.trans h2.symm)
 rw [List.length_range,List.length_cons,h.1] at this
 omega
section
variable {n:Nat} {o1 o2:List Int} (h1:Ord n o1) (h2:Ord n o2)
include h1 h2
theorem stp_lt {p:Nat} (hp:p<n):stp o1 o2 p<n:=by
 have:=ord_all h2 (ord_at h1 hp).2
 unfold stp
 rw [← h2.1]
 exact List.idxOf_lt_length_iff.2 this
theorem stp_at {p:Nat} (hp:p<n):o2.getD (stp o1 o2 p) 0=o1.getD p 0:=by
 have hl:=stp_lt h1 h2 hp
 rw [getD_at (show stp o1 o2 p<o2.length by rw [h2.1];exact hl)]
 exact List.getElem_idxOf (by rw [h2.1];exact hl)
theorem stp_inj {p q:Nat} (hp:p<n) (hq:q<n) (e:stp o1 o2 p=stp o1 o2 q):p=q:=by
 refine ord_inj h1 hp hq ?_
 rw [← stp_at h1 h2 hp,e,stp_at h1 h2 hq]
theorem itr_lt {a:Nat} (ha:a<n):∀ i,itr o1 o2 a i<n
 | 0=>ha
 | i+1=>stp_lt h1 h2 (itr_lt ha i)
theorem itr_dif {a m:Nat} (ha:a<n) (hm:∀ i,0<i→i<m→itr o1 o2 a i ≠ a):∀ {i j},i<j→j<m→itr o1 o2 a i ≠ itr o1 o2 a j
 | 0,j,hij,hj=>fun e=>hm j hij hj e.symm
 | i+1,0,hij,_=>by omega
 | i+1,j+1,hij,hj=>fun e=>itr_dif ha hm (i:=i) (j:=j) (by omega) (by omega) (stp_inj h1 h2 (itr_lt h1 h2 ha i) (itr_lt h1 h2 ha j) e)
theorem itr_few {a m:Nat} (ha:a<n) (hm:∀ i,0<i→i<m→itr o1 o2 a i ≠ a):m≤n:=by
 have hn:((List.range m).map (itr o1 o2 a)).Nodup:=by
  show List.Pairwise _ _
  rw [List.pairwise_map]
  exact (List.pairwise_lt_range).imp_of_mem fun {i j} hi hj hij=>itr_dif h1 h2 ha hm hij (List.mem_range.1 hj)
 have:=pigeon (R:=fun (a b:Nat)=>a=b) (t:=List.range n) hn (fun x hx=>by
  obtain ⟨i,_,rfl⟩:=List.mem_map.1 hx
  exact ⟨_,List.mem_range.2 (itr_lt h1 h2 ha i),rfl⟩) (fun a _ c _ b _ e f=>e.trans f.symm)
 rwa [List.length_map,List.length_range,List.length_range] at this
end
theorem rngL_len {o1 o2:List Int} {a r:Nat}:(rngL o1 o2 a r).length=r:=lst_len
theorem rngL_at {o1 o2:List Int} {a r i:Nat} (h:i<r):(rngL o1 o2 a r).getD i 0=(itr o1 o2 a i:Int):=lst_get h
theorem rngL_succ {o1 o2:List Int} {a r:Nat}:rngL o1 o2 a (r+1)=rngL o1 o2 a r++[(itr o1 o2 a r:Int)]:=lst_succ
def trnS (o ring:List Int) (out:List Int) (i:Nat):List Int:=out.set (ring.getD ((i+1) % ring.length) 0).toNat (o.getD (ring.getD i 0).toNat 0)
def trnN (o ring:List Int):Nat→List Int
 | 0=>o
 | i+1=>trnS o ring (trnN o ring i) i
def trnL (o ring:List Int):List Int:=trnN o ring ring.length
theorem trnN_len {o ring:List Int}:∀ i,(trnN o ring i).length=o.length
 | 0=>rfl
 | i+1=>by rw [trnN,trnS,List.length_set,trnN_len i]
theorem getD_setZ {l:List Int} {i j:Nat} {b:Int} (hi:i<l.length):(l.set i b).getD j 0=if i=j then b else l.getD j 0:=by
 rw [List.getD_eq_getElem?_getD,List.getElem?_set,List.getD_eq_getElem?_getD]
 by_cases e:i=j
 ·subst e;simp [hi]
 ·simp [e]
section
variable {n:Nat} {o1 o2:List Int} (h1:Ord n o1) (h2:Ord n o2) {a r:Nat} (ha:a<n) (hr:0<r) (hb:itr o1 o2 a r=a) (hm:∀ i,0<i→i<r→itr o1 o2 a i ≠ a)
include h1 h2 ha hr hb hm
theorem itr_mod {i:Nat} (hi:i<r):itr o1 o2 a ((i+1) % r)=itr o1 o2 a (i+1):=by
 have u1:=h1;have u2:=h2;have u3:=ha;have u4:=hr;have u5:=hm
 by_cases e:i+1=r
 ·rw [e,Nat.mod_self,hb];rfl
 ·rw [Nat.mod_eq_of_lt (by omega)]
theorem trnN_ring:∀ {k},k≤r→∀ q,q<n→(trnN o1 (rngL o1 o2 a r) k).getD q 0=if (∃ i,i<k∧itr o1 o2 a (i+1)=q) then o2.getD q 0 else o1.getD q 0
 | 0,_,q,hq=>by rw [if_neg (by rintro ⟨i,h,_⟩;omega)];rfl
 | k+1,hk,q,hq=>by
  have ih:=trnN_ring (k:=k) (by omega) q hq
  have hlt:=itr_lt h1 h2 ha
  rw [trnN,trnS,rngL_len,rngL_at (Nat.mod_lt _ hr),rngL_at (show k<r by omega),itr_mod h1 h2 ha hr hb hm (by omega),Int.toNat_natCast,Int.toNat_natCast,getD_setZ (by rw [trnN_len,h1.1];exact hlt _)]
  by_cases e:itr o1 o2 a (k+1)=q
  ·rw [if_pos e,if_pos ⟨k,by omega,e⟩,← e]
   exact (stp_at h1 h2 (hlt k)).symm
  ·rw [if_neg e,ih]
   by_cases c:∃ i,i<k∧itr o1 o2 a (i+1)=q
   ·rw [if_pos c,if_pos (by obtain ⟨i,x,y⟩:=c;exact ⟨i,by omega,y⟩)]
   ·rw [if_neg c,if_neg (by
     rintro ⟨i,x,y⟩
     by_cases f:i=k
     ·rw [f] at y;exact e y
     ·exact c ⟨i,by omega,y⟩)]
theorem trnL_at {q:Nat} (hq:q<n):(trnL o1 (rngL o1 o2 a r)).getD q 0=if (∃ i,i<r∧itr o1 o2 a (i+1)=q) then o2.getD q 0 else o1.getD q 0:=by
 unfold trnL
 rw [rngL_len]
 exact trnN_ring h1 h2 ha hr hb hm (Nat.le_refl _) q hq
theorem trnL_len':(trnL o1 (rngL o1 o2 a r)).length=n:=by
 have u2:=h2;have u3:=ha;have u4:=hr;have u5:=hm;have u6:=hb
 unfold trnL;rw [trnN_len,h1.1]
theorem trnL_ord:Ord n (trnL o1 (rngL o1 o2 a r)):=by
 have hl:=trnL_len' h1 h2 ha hr hb hm
 have at1:=fun {q} (hq:q<n)=>trnL_at h1 h2 ha hr hb hm hq
 have hlt:=itr_lt h1 h2 ha
 refine ⟨hl,fun x hx=>?_,?_⟩
 ·obtain ⟨q,hq,rfl⟩:=List.getElem_of_mem hx
  rw [hl] at hq
  have:=at1 hq
  rw [getD_at (by rw [hl];exact hq)] at this
  rw [this]
  split
  ·exact (ord_at h2 hq).2
  ·exact (ord_at h1 hq).2
 ·-- each card is that of o1 at some position,another one for each position
  have back:∀ {q},q<n→∃ p,p<n∧(trnL o1 (rngL o1 o2 a r)).getD q 0=o1.getD p 0∧((∃ i,i<r∧itr o1 o2 a (i+1)=q)→∃ i,i<r∧itr o1 o2 a i=p∧itr o1 o2 a (i+1)=q)∧(¬ (∃ i,i<r∧itr o1 o2 a (i+1)=q)→p=q):=fun {q} hq=>by
   by_cases c:∃ i,i<r∧itr o1 o2 a (i+1)=q
   ·obtain ⟨i,hi,e⟩:=c
    refine ⟨itr o1 o2 a i,hlt i,?_,fun _=>⟨i,hi,rfl,e⟩,fun h=>absurd ⟨i,hi,e⟩ h⟩
    rw [at1 hq,if_pos ⟨i,hi,e⟩,← e]
    exact stp_at h1 h2 (hlt i)
   ·exact ⟨q,hq,by rw [at1 hq,if_neg c],fun h=>absurd h c,fun _=>rfl⟩
  show List.Pairwise _ _
  rw [List.pairwise_iff_getElem]
  intro i j hi hj hij e
  rw [hl] at hi hj
  rw [← getD_at (d:=0) (by rw [hl];exact hi),← getD_at (d:=0) (by rw [hl];exact hj)] at e
  obtain ⟨p,hp,e1,c1,d1⟩:=back hi
  obtain ⟨q,hq,e2,c2,d2⟩:=back hj
  rw [e1,e2] at e
  have epq:=ord_inj h1 hp hq e
  subst epq
  -- a position of the ring is none of the others
  have onr:∀ {i},i<r→∃ k,k<r∧itr o1 o2 a (k+1)=itr o1 o2 a i:=fun {i} hi=>by
   by_cases c0:i=0
   ·subst c0;exact ⟨r-1,by omega,by rw [Nat.sub_add_cancel (by omega),hb];rfl⟩
   ·exact ⟨i-1,by omega,by rw [Nat.sub_add_cancel (by omega)]⟩
  by_cases ci:∃ k,k<r∧itr o1 o2 a (k+1)=i
  ·obtain ⟨x,hx,ex,ex2⟩:=c1 ci
   by_cases cj:∃ k,k<r∧itr o1 o2 a (k+1)=j
   ·obtain ⟨y,hy,ey,ey2⟩:=c2 cj
    rw [← ey] at ex
    have:=congrArg (stp o1 o2) ex
    rw [show stp o1 o2 (itr o1 o2 a x)=itr o1 o2 a (x+1) from rfl,show stp o1 o2 (itr o1 o2 a y)=itr o1 o2 a (y+1) from rfl,ex2,ey2] at this
    omega
   ·have:=d2 cj
    obtain ⟨k,hk,ek⟩:=onr hx
    exact cj ⟨k,hk,by rw [ek,ex,this]⟩
  ·have hpi:=d1 ci
   by_cases cj:∃ k,k<r∧itr o1 o2 a (k+1)=j
   ·obtain ⟨y,hy,ey,_⟩:=c2 cj
    obtain ⟨k,hk,ek⟩:=onr hy
    exact ci ⟨k,hk,by rw [ek,ey,hpi]⟩
   ·have:=d2 cj
    omega
theorem trnL_xpl {L:Lac} (hn:n=L.C.length) (x1:Xpl L o1) (x2:Xpl L o2):Xpl L (trnL o1 (rngL o1 o2 a r)):=fun i hi=>by
 rw [trnL_len' h1 h2 ha hr hb hm] at hi
 rw [trnL_at h1 h2 ha hr hb hm hi]
 split
 ·exact x2 i (by rw [h2.1];exact hi)
 ·exact x1 i (by rw [h1.1];exact hi)
theorem trnL_ne (hne:o1.getD a 0 ≠ o2.getD a 0):trnL o1 (rngL o1 o2 a r) ≠ o1:=fun e=>by
 have:=trnL_at h1 h2 ha hr hb hm ha
 rw [e,if_pos ⟨r-1,by omega,by rw [Nat.sub_add_cancel (by omega),hb]⟩] at this
 exact hne this
theorem ring_two (hne:o1.getD a 0 ≠ o2.getD a 0):2≤r:=by
 have u5:=hm
 refine Classical.byContradiction fun q=>?_
 have hr1:r=1:=by omega
 rw [hr1] at hb
 have:=stp_at h1 h2 ha
 rw [show stp o1 o2 a=a from hb] at this
 exact hne this.symm
theorem ring_nodup:(rngL o1 o2 a r).Nodup:=by
 have u4:=hr;have u6:=hb
 show List.Pairwise _ _
 rw [List.pairwise_iff_getElem]
 intro i j hi hj hij e
 rw [rngL_len] at hi hj
 rw [← getD_at (d:=0) (by rw [rngL_len];exact hi),← getD_at (d:=0) (by rw [rngL_len];exact hj),rngL_at hi,rngL_at hj] at e
 exact itr_dif h1 h2 ha hm hij hj (by omega)
end
end Go.AM
namespace Go.AM
def bstI (o out:List Int) (p:Nat):Nat→Int
 | 0=>0
 | j+1=>if o.getD (p+1+j) 0 > o.getD p 0 then max (bstI o out p j) (out.getD (p+1+j) 0) else bstI o out p j
def rsN (o:List Int):Nat→List Int
 | 0=>List.replicate o.length 0
 | k+1=>(rsN o k).set (o.length-1-k) (bstI o (rsN o k) (o.length-1-k) k+1)
def rsA (o:List Int):List Int:=rsN o o.length
theorem rsN_len {o:List Int}:∀ k,(rsN o k).length=o.length
 | 0=>by simp [rsN]
 | k+1=>by rw [rsN,List.length_set,rsN_len k]
theorem bstI_congr {o out out':List Int} {p:Nat}:∀ {j},(∀ i,i<j→out.getD (p+1+i) 0=out'.getD (p+1+i) 0)→bstI o out p j=bstI o out' p j
 | 0,_=>rfl
 | j+1,h=>by
  rw [bstI,bstI,bstI_congr (j:=j) (fun i hi=>h i (by omega)),h j (by omega)]
theorem rsN_stay {o:List Int} {p:Nat}:∀ {k m},k+m≤o.length→o.length-k≤p→(rsN o (k+m)).getD p 0=(rsN o k).getD p 0
 | k,0,_,_=>rfl
 | k,m+1,h1,h2=>by
  rw [show k+(m+1)=(k+m)+1 from rfl,rsN,getD_setZ (by rw [rsN_len];omega),if_neg (by omega)]
  exact rsN_stay (by omega) h2
theorem rsA_eq {o:List Int} {p:Nat} (hp:p<o.length):(rsA o).getD p 0=bstI o (rsA o) p (o.length-1-p)+1:=by
 obtain ⟨k,ek⟩:∃ k,k=o.length-1-p:=⟨_,rfl⟩
 have ep:o.length-1-k=p:=by omega
 have e1:(rsA o).getD p 0=(rsN o (k+1)).getD p 0:=by
  have:=rsN_stay (o:=o) (p:=p) (k:=k+1) (m:=o.length-(k+1)) (by omega) (by omega)
  rw [show k+1+(o.length-(k+1))=o.length by omega] at this
  exact this
 rw [e1,rsN,ep,getD_setZ (by rw [rsN_len];exact hp),if_pos rfl,← ek]
 congr 1
 refine bstI_congr fun i hi=>?_
 have:=rsN_stay (o:=o) (p:=p+1+i) (k:=k) (m:=o.length-k) (by omega) (by omega)
 rw [show k+(o.length-k)=o.length by omega] at this
 exact this.symm
theorem bstI_ge {o out:List Int} {p:Nat}:∀ {j i},i<j→o.getD (p+1+i) 0 > o.getD p 0→out.getD (p+1+i) 0≤bstI o out p j
 | j+1,i,hi,h=>by
  rw [bstI]
  by_cases e:i=j
  ·subst e
   rw [if_pos h]
   omega
  ·have:=bstI_ge (o:=o) (out:=out) (p:=p) (j:=j) (i:=i) (by omega) h
   split<;>omega
theorem bstI_is {o out:List Int} {p:Nat}:∀ {j},bstI o out p j=0 ∨ ∃ i,i<j∧o.getD (p+1+i) 0 > o.getD p 0∧bstI o out p j=out.getD (p+1+i) 0
 | 0=>.inl rfl
 | j+1=>by
  rw [bstI]
  split
  ·rename_i c
   rcases Int.le_total (bstI o out p j) (out.getD (p+1+j) 0) with q|q
   ·exact .inr ⟨j,by omega,c,by omega⟩
   ·rw [Int.max_eq_left q]
    rcases bstI_is (o:=o) (out:=out) (p:=p) (j:=j) with h|⟨i,h1,h2,h3⟩
    ·exact .inl h
    ·exact .inr ⟨i,by omega,h2,h3⟩
  ·rcases bstI_is (o:=o) (out:=out) (p:=p) (j:=j) with h|⟨i,h1,h2,h3⟩
   ·exact .inl h
   ·exact .inr ⟨i,by omega,h2,h3⟩
theorem bstI_nn {o out:List Int} {p:Nat}:∀ {j},0≤bstI o out p j
 | 0=>by simp [bstI]
 | j+1=>by
  have:=bstI_nn (o:=o) (out:=out) (p:=p) (j:=j)
  rw [bstI];split<;>omega
structure RsV (o:List Int) (V:Nat→Int):Prop where
 pos:∀ p,p<o.length→1≤V p
 dn:∀ p q,p<q→q<o.length→o.getD p 0<o.getD q 0→V q+1≤V p
 is:∀ p,p<o.length→V p=1 ∨ ∃ q,p<q∧q<o.length∧o.getD p 0<o.getD q 0∧V p=V q+1
theorem rsA_V (o:List Int):RsV o fun p=>(rsA o).getD p 0:=by
 refine ⟨fun p hp=>?_,fun p q hpq hq h=>?_,fun p hp=>?_⟩
 ·have:=bstI_nn (o:=o) (out:=rsA o) (p:=p) (j:=o.length-1-p)
  rw [rsA_eq hp];omega
 ·have:=bstI_ge (o:=o) (out:=rsA o) (p:=p) (j:=o.length-1-p) (i:=q-p-1) (by omega) (by rw [show p+1+(q-p-1)=q by omega];exact h)
  rw [show p+1+(q-p-1)=q by omega] at this
  have e:=rsA_eq (o:=o) (p:=p) (by omega)
  omega
 ·have e:=rsA_eq (o:=o) hp
  rcases bstI_is (o:=o) (out:=rsA o) (p:=p) (j:=o.length-1-p) with h|⟨i,h1,h2,h3⟩
  ·exact .inl (by omega)
  ·exact .inr ⟨p+1+i,by omega,by omega,h2,by omega⟩
def rsR (o:List Int) (p q:Int):Prop:=p<q∧o.getD p.toNat 0<o.getD q.toNat 0
def RiseP (o l:List Int):Prop:=l.Pairwise (rsR o)∧∀ p ∈ l,0≤p∧p<(o.length:Int)
theorem RiseP.tail {o l:List Int} {p:Int} (h:RiseP o (p :: l)):RiseP o l:=⟨(List.pairwise_cons.1 h.1).2,fun q hq=>h.2 q (by simp [hq])⟩
section
variable {o:List Int} {V:Nat→Int} (hV:RsV o V)
include hV
theorem rise_len:∀ {l:List Int} {p:Int},RiseP o (p :: l)→(l.length:Int)+1≤V p.toNat
 | [],p,h=>by
  have:=h.2 p (by simp)
  have:=hV.pos p.toNat (by omega)
  simpa using this
 | q :: l,p,h=>by
  have ih:=rise_len (l:=l) (p:=q) h.tail
  have h1:=(List.pairwise_cons.1 h.1).1 q (by simp)
  have hp:=h.2 p (by simp)
  have hq:=h.2 q (by simp)
  have:=hV.dn p.toNat q.toNat (by have:=h1.1;omega) (by omega) h1.2
  simp only [List.length_cons]
  omega
end
def nxtB (o:List Int) (V:Nat→Int) (out:List Int) (left:Int) (p:Int):Bool :=
 decide (V p.toNat=left) && (match out.getLast? with|none=>true|some a=>decide (a<p∧o.getD a.toNat 0<o.getD p.toNat 0))
def riseS (o:List Int) (V:Nat→Int) (out:List Int) (left:Int):List Int :=
 match (upto o.length).find? (nxtB o V out left) with|some p=>out++[p]|none=>out
def riseF (o:List Int) (V:Nat→Int):Nat→List Int→List Int
 | 0,out=>out
 | m+1,out=>riseF o V m (riseS o V out (m+1:Nat))
theorem find_first {α:Type} {R:α→α→Prop} {f:α→Bool}:∀ {l:List α} {x:α},l.Pairwise R→x ∈ l→f x=true→∃ y,l.find? f=some y∧y ∈ l∧f y=true∧(y=x ∨ R y x)
 | [],x,_,hx,_=>by simp at hx
 | z :: l,x,hl,hx,hf=>by
  rw [List.find?_cons]
  rw [List.pairwise_cons] at hl
  by_cases c:f z=true
  ·rw [c]
   refine ⟨z,rfl,by simp,c,?_⟩
   rcases List.mem_cons.1 hx with e|e
   ·exact .inl e.symm
   ·exact .inr (hl.1 x e)
  ·have hc:f z=false:=by simpa using c
   rw [hc]
   have hxl:x ∈ l:=(List.mem_cons.1 hx).resolve_left fun e=>by rw [e] at hf;exact c hf
   obtain ⟨y,h1,h2,h3,h4⟩:=find_first hl.2 hxl hf
   exact ⟨y,h1,by simp [h2],h3,h4⟩
section
variable {o:List Int} {V:Nat→Int} (hV:RsV o V)
include hV
theorem rise_on:∀ {m:Nat} {out:List Int} {a:Int},out.getLast?=some a→(0≤a∧a<(o.length:Int))→V a.toNat=(m:Int)+1 →
  ∃ s,riseF o V m out=out++s∧RiseP o (a :: s)∧s.length=m∧∀ t,RiseP o (a :: t)→t.length=m→t=s ∨ lexB s t=true
 | 0,out,a,ha,hr,hv=>⟨[],by simp [riseF],⟨List.pairwise_singleton _ _,fun p hp=>by rw [List.mem_singleton] at hp;rw [hp];exact hr⟩,rfl,fun t _ ht=>.inl (List.eq_nil_of_length_eq_zero ht)⟩
 | m+1,out,a,ha,hr,hv=>by
  obtain ⟨q,h1,h2,h3,h4⟩:∃ q,a.toNat<q∧q<o.length∧o.getD a.toNat 0<o.getD q 0∧V q=(m:Int)+1:=by
   rcases hV.is a.toNat (by omega) with h|⟨q,x,y,z,w⟩
   ·omega
   ·exact ⟨q,x,y,z,by omega⟩
  have hnx:∀ p:Int,nxtB o V out ((m+1:Nat):Int) p=true ↔ V p.toNat=(m:Int)+1∧a<p∧o.getD a.toNat 0<o.getD p.toNat 0:=fun p=>by
   unfold nxtB
   rw [ha]
   simp only [Bool.and_eq_true,decide_eq_true_eq]
   rw [show ((m+1:Nat):Int)=(m:Int)+1 by omega]
  obtain ⟨y,f1,f2,f3,f4⟩:=find_first (f:=nxtB o V out ((m+1:Nat):Int)) (upto_sorted o.length) (upto_mem.2 (show 0≤(q:Int)∧(q:Int)<(o.length:Int) by omega)) ((hnx q).2 ⟨by rw [Int.toNat_natCast];exact h4,by omega,by rw [Int.toNat_natCast];exact h3⟩)
  have hy:=(hnx y).1 f3
  have hyr:=upto_mem.1 f2
  obtain ⟨s,g1,g2,g3,g4⟩:=rise_on (m:=m) (out:=out++[y]) (a:=y) (by simp) hyr hy.1
  refine ⟨y :: s,?_,⟨List.pairwise_cons.2 ⟨fun p hp=>?_,g2.1⟩,fun p hp=>?_⟩,by simp [g3],fun t ht hl=>?_⟩
  ·rw [riseF,riseS,f1]
   simp only
   rw [g1,List.append_assoc];rfl
  ·rcases List.mem_cons.1 hp with e|e
   ·rw [e];exact hy.2
   ·have:=(List.pairwise_cons.1 g2.1).1 p e
    exact ⟨by have:=this.1;have:=hy.2.1;omega,Int.lt_trans hy.2.2 this.2⟩
  ·rcases List.mem_cons.1 hp with e|e
   ·rw [e];exact hr
   ·exact g2.2 p e
  ·match t,hl with
   | t0 :: t',hl =>
    have r0:=(List.pairwise_cons.1 ht.1).1 t0 (by simp)
    have hr0:=ht.2 t0 (by simp)
    have l1:=rise_len hV ht.tail
    have l2:=hV.dn a.toNat t0.toNat (by have:=r0.1;omega) (by omega) r0.2
    have hl':t'.length=m:=by simpa using hl
    have v0:V t0.toNat=(m:Int)+1:=by omega
    obtain ⟨y',f1',_,_,f4'⟩:=find_first (f:=nxtB o V out ((m+1:Nat):Int)) (upto_sorted o.length) (upto_mem.2 hr0) ((hnx t0).2 ⟨v0,r0.1,r0.2⟩)
    rw [f1] at f1'
    cases f1'
    rcases f4' with e|e
    ·subst e
     rcases g4 t' ht.tail hl' with e|e
     ·exact .inl (by rw [e])
     ·refine .inr ?_
      rw [lexB,if_pos rfl];exact e
    ·refine .inr ?_
     rw [lexB,if_neg (by omega)]
     exact decide_eq_true e
end
def IsRise (o x:List Int):Prop:=RiseP o x∧∀ y,RiseP o y→y.length<x.length ∨ (y.length=x.length∧(y=x ∨ lexB x y=true))
theorem isRise_one {o x y:List Int} (hx:IsRise o x) (hy:IsRise o y):x=y:=by
 rcases hx.2 y hy.1 with h|⟨h,e|e⟩
 ·rcases hy.2 x hx.1 with k|⟨k,_⟩<;>omega
 ·exact e.symm
 ·rcases hy.2 x hx.1 with k|⟨k,f|f⟩
  ·omega
  ·exact f
  ·have:=lexB_trans e f
   rw [lexB_irr] at this;cases this
def grt (l:List Int):Int:=l.foldl max 0
theorem grt_ge:∀ {l:List Int} {a:Int},a≤l.foldl max a∧∀ x ∈ l,x≤l.foldl max a
 | [],a=>⟨Int.le_refl _,by simp⟩
 | y :: l,a=>by
  have ih:=grt_ge (l:=l) (a:=max a y)
  refine ⟨by rw [List.foldl_cons];omega,fun x hx=>?_⟩
  rw [List.foldl_cons]
  rcases List.mem_cons.1 hx with e|e
  ·omega
  ·exact ih.2 x e
theorem grt_is:∀ {l:List Int} {a:Int},l.foldl max a=a ∨ l.foldl max a ∈ l
 | [],a=>.inl rfl
 | y :: l,a=>by
  rw [List.foldl_cons]
  rcases grt_is (l:=l) (a:=max a y) with h|h
  ·rcases Int.le_total a y with q|q
   ·exact .inr (by rw [h,Int.max_eq_right q];simp)
   ·exact .inl (by rw [h,Int.max_eq_left q])
  ·exact .inr (by simp [h])
def riseL (o:List Int):List Int:=riseF o (fun p=>(rsA o).getD p 0) (grt (rsA o)).toNat []
theorem riseL_is (o:List Int):IsRise o (riseL o):=by
 have hV:=rsA_V o
 have hlen:(rsA o).length=o.length:=rsN_len _
 by_cases h0:o.length=0
 ·have e:riseL o=[]:=by
   unfold riseL
   have:rsA o=[]:=List.eq_nil_of_length_eq_zero (by omega)
   rw [this];rfl
  rw [e]
  refine ⟨⟨.nil,by simp⟩,fun y hy=>.inr ?_⟩
  have:y=[]:=by
   match y,hy with
   | [],_=>rfl
   | a :: y,hy=>have:=hy.2 a (by simp);omega
  rw [this];exact ⟨rfl,.inl rfl⟩
 ·-- the greatest number
  have hge:∀ p,p<o.length→(rsA o).getD p 0≤grt (rsA o):=fun p hp=>(grt_ge (l:=rsA o) (a:=0)).2 _ (getD_mem' (by omega))
  obtain ⟨p0,hp0,e0⟩:∃ p,p<o.length∧(rsA o).getD p 0=grt (rsA o):=by
   rcases grt_is (l:=rsA o) (a:=0) with h|h
   ·have h1:1≤(rsA o).getD 0 0:=hV.pos 0 (by omega)
    have h2:=hge 0 (by omega)
    rw [show grt (rsA o)=0 from h] at h2
    omega
   ·obtain ⟨i,hi,e⟩:=List.getElem_of_mem h
    exact ⟨i,by omega,by rw [getD_at hi];exact e⟩
  have h1:1≤(rsA o).getD p0 0:=hV.pos p0 hp0
  rw [e0] at h1
  obtain ⟨m,em⟩:∃ m:Nat,grt (rsA o)=(m:Int)+1:=⟨(grt (rsA o)-1).toNat,by omega⟩
  have hnx:∀ p:Int,nxtB o (fun p=>(rsA o).getD p 0) [] ((m+1:Nat):Int) p=true ↔ (rsA o).getD p.toNat 0=(m:Int)+1:=fun p=>by
   unfold nxtB
   simp only [List.getLast?_nil,Bool.and_true,decide_eq_true_eq]
   rw [show ((m+1:Nat):Int)=(m:Int)+1 by omega]
  obtain ⟨y,f1,f2,f3,f4⟩:=find_first (f:=nxtB o (fun p=>(rsA o).getD p 0) [] ((m+1:Nat):Int)) (upto_sorted o.length) (upto_mem.2 (show 0≤(p0:Int)∧(p0:Int)<(o.length:Int) by omega)) ((hnx p0).2 (by rw [Int.toNat_natCast];omega))
  obtain ⟨s,g1,g2,g3,g4⟩:=rise_on hV (m:=m) (out:=[y]) (a:=y) (by simp) (upto_mem.1 f2) ((hnx y).1 f3)
  have e:riseL o=y :: s:=by
   unfold riseL
   rw [em,show ((m:Int)+1).toNat=m+1 by omega,riseF,riseS,f1]
   simp only [List.nil_append]
   rw [g1];rfl
  rw [e]
  refine ⟨g2,fun t ht=>?_⟩
  match t,ht with
  | [],_=>exact .inl (by simp)
  | t0 :: t',ht =>
   have hr0:=ht.2 t0 (by simp)
   have l1:=rise_len hV ht
   have l2:=hge t0.toNat (by omega)
   rw [em] at l2
   simp only [List.length_cons] at l1 ⊢
   by_cases hl:t'.length=m
   ·refine .inr ⟨by omega,?_⟩
    have v0:(rsA o).getD t0.toNat 0=(m:Int)+1:=by omega
    obtain ⟨y',f1',_,_,f4'⟩:=find_first (f:=nxtB o (fun p=>(rsA o).getD p 0) [] ((m+1:Nat):Int)) (upto_sorted o.length) (upto_mem.2 hr0) ((hnx t0).2 v0)
    rw [f1] at f1'
    cases f1'
    rcases f4' with e|e
    ·subst e
     rcases g4 t' ht hl with e|e
     ·exact .inl (by rw [e])
     ·refine .inr ?_
      rw [lexB,if_pos rfl];exact e
    ·refine .inr ?_
     rw [lexB,if_neg (by omega)]
     exact decide_eq_true e
   ·exact .inl (by omega)
end Go.AM
namespace Go.AM
open Go.Proofs.Tryz
attribute [-go_sem] put_ne put_same
attribute [local go_sem ↓] put_if
theorem run_in {base:Nat} {h:Heap} {n lo hi:Int}:callL prog raw base (.fn 64 [] []) [.int .i64 n,.int .i64 lo,.int .i64 hi] h=some (.bool (decide (lo≤n∧n≤hi)),h):=by
 refine callL_run func64 rfl rfl ?_
 by_cases h1:lo≤n
 ·have t1:(n ≥ lo)=True:=eq_true h1
  have hsp:=@Nat.succ_ne_zero;repeat' (first|simp (disch:=first|exact dq|fail) only [go_sem,↓reduceIte,hsp,t1]|refine WP_drw ?_|refine cnd_intro (fun hsp=>?_) fun hsp=>?_)
  refine fB ?_
  simp [h1]
 ·have t1:(n ≥ lo)=False:=eq_false h1
  have hsp:=@Nat.succ_ne_zero;repeat' (first|simp (disch:=first|exact dq|fail) only [go_sem,↓reduceIte,hsp,t1]|refine WP_drw ?_|refine cnd_intro (fun hsp=>?_) fun hsp=>?_)
  refine fB ?_
  simp [h1]
attribute [go_sem] run_in
theorem run_greatest {base:Nat} {h:Heap} {v:AVal} {l:List Int} (hI:Ints h v l):callL prog raw base (.fn 82 [] []) [v] h=some (.int .i64 (grt l),h):=by
 have hl:=hI.1.1
 have hlen:=lenI hI
 refine callL_run func82 rfl rfl ?_
 have hsp:=@Nat.succ_ne_zero;repeat' (first|simp (disch:=first|exact dq|fail) only [go_sem,↓reduceIte,hsp,hlen]|refine WP_drw ?_|refine cnd_intro (fun hsp=>?_) fun hsp=>?_)
 refine WP_count [(3,5),(8,15)] 0 l.length (Nat.zero_le _) (fun _ i fr h'=>fr 8=.int .i64 (i:Int)∧fr 3=.int .i64 (grt (l.take i))∧h'=h) ?_ ?_ ?_
 ·exact ⟨by (simp (disch:=first|exact dq|fail) only [go_sem,↓reduceIte,Int.natCast_zero];first|done|rfl),by simp (disch:=first|exact dq|fail) only [go_sem,↓reduceIte];rfl,rfl⟩
 ·rintro i fr H hi0 hi hA ⟨r8,r3,rfl⟩
  have p2:=hA 2 rfl
  have p6:=hA 6 rfl
  have p7:=hA 7 rfl
  try simp (disch:=first|exact dq|fail) only [go_sem,↓reduceIte] at p2 p6 p7
  have hlt:((i:Int)<(l.length:Int))=True:=eq_true (by omega)
  have hl0:=loadI hI hi
  have ha0:=adrI (i:=(i:Int)) (by omega) hI (by omega)
  rw [Int.toNat_natCast] at ha0
  have hsp:=@Nat.succ_ne_zero;repeat' (first|simp (disch:=first|exact dq|fail) only [go_sem,↓reduceIte,hsp,r8,r3,p2,p6,p7,hlt,ha0,hl0]|refine WP_drw ?_|refine cnd_intro (fun hsp=>?_) fun hsp=>?_)
  refine ⟨agq,by omega,?_⟩
  unfold grt
  rw [List.take_add_one,getD_some (d:=0) hi,List.foldl_append]
  generalize (l.take i).foldl max 0=a
  generalize l.getD i 0=b
  simp only [Option.toList,List.foldl_cons,List.foldl_nil]
  done
 ·rintro fr H hA ⟨r8,r3,rfl⟩
  have p2:=hA 2 rfl
  have p6:=hA 6 rfl
  have p7:=hA 7 rfl
  try simp (disch:=first|exact dq|fail) only [go_sem,↓reduceIte] at p2 p6 p7
  have hlt:((l.length:Int)<(l.length:Int))=False:=eq_false (by omega)
  rw [List.take_length] at r3
  have hsp:=@Nat.succ_ne_zero;repeat' (first|simp (disch:=first|exact dq|fail) only [go_sem,↓reduceIte,hsp,r8,r3,p2,p6,p7,hlt]|refine WP_drw ?_|refine cnd_intro (fun hsp=>?_) fun hsp=>?_)
  exact fI rfl
theorem nodup_snoc {l:List Int} {x:Int}:(l++[x]).Nodup ↔ l.Nodup∧x ∉ l:=by
 rw [List.nodup_append]
 simp
 intro _
 exact ⟨fun h hx=>h x hx rfl,fun h a ha e=>h (e ▸ ha)⟩
theorem take_succ' {l:List Int} {i:Nat} (hi:i<l.length):l.take (i+1)=l.take i++[l.getD i 0]:=by
 rw [List.take_add_one,getD_some (d:=0) hi];rfl
theorem run_twice {base:Nat} {h:Heap} {v:AVal} {l:List Int} (hI:Ints h v l):callL prog raw base (.fn 70 [] []) [v] h=some (.bool (twB l),h):=by
 have hl:=hI.1.1
 have hlen:=lenI hI
 refine callL_run func70 rfl rfl ?_
 have hsp:=@Nat.succ_ne_zero;repeat' (first|simp (disch:=first|exact dq|fail) only [go_sem,↓reduceIte,hsp,hlen]|refine WP_drw ?_|refine cnd_intro (fun hsp=>?_) fun hsp=>?_)
 refine WP_count [(2,4),(7,17)] 0 l.length (Nat.zero_le _) (fun _ i fr h'=>fr 7=.int .i64 (i:Int)∧(l.take i).Nodup∧h'=h) ?_ ?_ ?_
 ·exact ⟨by (simp (disch:=first|exact dq|fail) only [go_sem,↓reduceIte,Int.natCast_zero];first|done|rfl),by simp,rfl⟩
 ·rintro i fr H hi0 hi hA ⟨r7,hN,rfl⟩
  have p0:=hA 0 rfl
  have p5:=hA 5 rfl
  have p6:=hA 6 rfl
  try simp (disch:=first|exact dq|fail) only [go_sem,↓reduceIte] at p0 p5 p6
  have hlt:((i:Int)<(l.length:Int))=True:=eq_true (by omega)
  have hl0:=loadI hI hi
  have ha0:=adrI (i:=(i:Int)) (by omega) hI (by omega)
  rw [Int.toNat_natCast] at ha0
  have hsl:=sl_hi (P:=prog) (t:=22) Fc.el22 Fc.ar22 (n:=(i:Int)) (by omega) hI (by omega)
  rw [Int.toNat_natCast] at hsl
  have hIs:=hI.slc (lo:=0) (hi:=i) (by omega) (by omega)
  rw [List.drop_zero] at hIs
  have hc:=fun base=>run_contains (base:=base) (x:=l.getD i 0) hIs
  by_cases hm:l.getD i 0 ∈ l.take i
  ·rw [decide_eq_true hm] at hc
   have hsp:=@Nat.succ_ne_zero;repeat' (first|simp (disch:=first|exact dq|fail) only [go_sem,↓reduceIte,hsp,r7,p0,p5,p6,hlt,ha0,hl0,hsl,hc]|refine WP_drw ?_|refine cnd_intro (fun hsp=>?_) fun hsp=>?_)
   refine fB ?_
   unfold twB
   refine (decide_eq_true ?_).symm
   intro hN2
   have:=(List.take_sublist (i+1) l).nodup hN2
   rw [take_succ' hi] at this
   exact (nodup_snoc.1 this).2 hm
  ·rw [decide_eq_false hm] at hc
   have hsp:=@Nat.succ_ne_zero;repeat' (first|simp (disch:=first|exact dq|fail) only [go_sem,↓reduceIte,hsp,r7,p0,p5,p6,hlt,ha0,hl0,hsl,hc]|refine WP_drw ?_|refine cnd_intro (fun hsp=>?_) fun hsp=>?_)
   refine ⟨agq,by omega,?_⟩
   rw [take_succ' hi]
   exact nodup_snoc.2 ⟨hN,hm⟩
 ·rintro fr H hA ⟨r7,hN,rfl⟩
  have p0:=hA 0 rfl
  have p5:=hA 5 rfl
  have p6:=hA 6 rfl
  try simp (disch:=first|exact dq|fail) only [go_sem,↓reduceIte] at p0 p5 p6
  have hlt:((l.length:Int)<(l.length:Int))=False:=eq_false (by omega)
  rw [List.take_length] at hN
  have hsp:=@Nat.succ_ne_zero;repeat' (first|simp (disch:=first|exact dq|fail) only [go_sem,↓reduceIte,hsp,r7,p0,p5,p6,hlt]|refine WP_drw ?_|refine cnd_intro (fun hsp=>?_) fun hsp=>?_)
  refine fB ?_
  unfold twB
  exact (decide_eq_false (fun q=>q hN)).symm
theorem all_take {α:Type} {p:α→Bool} {l:List α} {n:Nat} {x:α} (hx:l[n]?=some x) (h:(l.take n).all p=true) (hp:p x=true):(l.take (n+1)).all p=true:=by
 rw [List.take_add_one,hx]
 simp only [Option.toList,List.all_append,h,List.all_cons,hp,List.all_nil]
 rfl
theorem all_no {α:Type} {p:α→Bool} {l:List α} {n:Nat} {x:α} (hx:l[n]?=some x) (hp:p x=false):l.all p=false:=by
 rw [Bool.eq_false_iff]
 intro h
 have:=List.all_eq_true.1 h x (List.mem_of_getElem? hx)
 rw [hp] at this;cases this
theorem any_I {base:Nat} {h:Heap} {v g:AVal} {l:List Int} (p:Int→Bool) (hb:base≤h.length) (h1:One g) (hI:Ints h v l) (hg:∀ x,x ∈ l→callL prog raw base g [.int .i64 x] h=some (.bool (p x),h)) :
  callL prog raw base (.fn 94 [] []) [v,g] h=some (.bool (l.any p),h):=by
 obtain ⟨w,H,e,k,b,rfl,c1,c2⟩:=anyS_I (base:=base) (A:=0) (pr:=fun _=>True) (J:=fun n H=>H=h∧(l.take n).all (fun x=>!p x)=true) (S:=fun n H=>H=h∧l.any p=true) hb h1 (fun n H q=>q.1 ▸ hI)
  (fun n x H hx hH hJ=>by
   obtain ⟨rfl,hJ⟩:=hJ
   refine ⟨_,_,hg x (List.mem_of_getElem? hx),KeepP.refl,fun q=>⟨rfl,all_take hx hJ (by simp [q])⟩,fun q=>⟨rfl,List.any_eq_true.2 ⟨x,List.mem_of_getElem? hx,q⟩⟩⟩)
  ⟨rfl,by simp⟩
 rw [e]
 cases b with
 | true=>obtain ⟨n,hn,rfl,q⟩:=c2 rfl;rw [q]
 | false =>
  obtain ⟨rfl,q⟩:=c1 rfl
  rw [List.take_length] at q
  rw [List.any_eq_not_all_not,q];rfl
abbrev evB (g:AVal):ABlk:=⟨.cells [g] 103 false false,0⟩
theorem every_I {base:Nat} {h:Heap} {v g:AVal} {l:List Int} (p:Int→Bool) (hb:base≤h.length) (h1:One g) (hI:Ints h v l) (hg:∀ x,x ∈ l→callL prog raw base g [.int .i64 x] (h++[evB g])=some (.bool (p x),h++[evB g])) :
  callL prog raw base (.fn 66 [] []) [v,g] h=some (.bool (l.all p),h++[evB g]):=by
 obtain ⟨w,H,e,k,b,rfl,c1,c2⟩:=everyS_I (base:=base) (A:=0) (pr:=fun _=>True) (J:=fun n H=>H=h++[evB g]∧(l.take n).all p=true) (S:=fun n H=>H=h++[evB g]∧l.all p=false) hb h1 (by omega) trivial (fun n H q=>q.1 ▸ hI.app)
  (fun n x H hx hH hJ=>by
   obtain ⟨rfl,hJ⟩:=hJ
   refine ⟨_,_,hg x (List.mem_of_getElem? hx),KeepP.refl,fun q=>⟨rfl,all_take hx hJ q⟩,fun q=>⟨rfl,all_no hx q⟩⟩)
  ⟨rfl,by simp⟩
 rw [e]
 cases b with
 | false=>obtain ⟨n,hn,rfl,q⟩:=c2 rfl;rw [q]
 | true =>
  obtain ⟨rfl,q⟩:=c1 rfl
  rw [List.take_length] at q
  rw [q]
def ordL (l:List Int) (n:Int):Int:=if (l.length:Int) ≠ n then 2 else if ¬ (l.all fun k=>decide (0≤k∧k≤n-1))=true then 1 else if twB l=true then 5 else 0
abbrev nB (n:Int):ABlk:=⟨.cells [.int .i64 n] 3 false false,0⟩
theorem run_ord1 {base id:Nat} {h:Heap} {n k:Int} (hn:-1000≤n∧n≤100000000) (hg:h[id]?=some (nB n)):callL prog raw base (.fn 116 [] [.ptr (some ⟨id,0,0⟩)]) [.int .i64 k] h=some (.bool (decide (0≤k∧k≤n-1)),h):=by
 have hid:=lt_of_get hg
 unfold nB at hg
 refine callL_run func116 rfl rfl ?_
 have hsp:=@Nat.succ_ne_zero;repeat' (first|simp (disch:=first|exact dq|fail) only [go_sem,↓reduceIte,hsp,hg]|refine WP_drw ?_|refine cnd_intro (fun hsp=>?_) fun hsp=>?_)
 exact fB rfl
theorem run_ordered {base:Nat} {h:Heap} {v:AVal} {l:List Int} {n:Int} (hI:Ints h v l) (hn:-1000≤n∧n≤100000000):callL prog raw base (.fn 80 [] []) [v,.int .i64 n] h=some (.int .i64 (ordL l n),h):=by
 have hl:=hI.1.1
 have hv1:=hI.one
 obtain ⟨G,eG⟩:∃ G,G=h++[nB n]:=⟨_,rfl⟩
 have xG:Ext h G:=by rw [eG];exact .app .refl
 have gn:G[h.length]?=some (nB n):=by rw [eG];exact get_eq rfl
 have hGl:G.length=h.length+1:=by rw [eG];simp
 have hlen:=lenI (hI.ext xG)
 have hev:=every_I (base:=h.length) (h:=G) (v:=v) (g:=.fn 116 [] [.ptr (some ⟨h.length,0,0⟩)]) (l:=l) (fun k=>decide (0≤k∧k≤n-1)) (by omega) ⟨rfl,rfl,rfl⟩ (hI.ext xG) (fun x _=>run_ord1 hn (get_app gn))
 have htw:=run_twice (base:=h.length) ((hI.ext xG).ext (.app (t:=[evB (.fn 116 [] [.ptr (some ⟨h.length,0,0⟩)])]) .refl))
 unfold nB at eG gn
 refine callL_run func80 rfl rfl ?_
 by_cases c1:(l.length:Int)=n
 ·have t1:((l.length:Int)=n)=True:=eq_true c1
  cases c2:l.all (fun k=>decide (0≤k∧k≤n-1)) with
  | false =>
   rw [c2] at hev
   have hsp:=@Nat.succ_ne_zero;repeat' (first|simp (disch:=first|exact dq|fail) only [go_sem,↓reduceIte,hsp,← eG,gn,hlen,t1,hev]|refine WP_drw ?_|refine cnd_intro (fun hsp=>?_) fun hsp=>?_)
   refine fI ?_ (by rw [eG];exact .app (.app .refl))
   unfold ordL
   rw [if_neg (by simp [c1]),if_pos (by rw [c2];simp)]
  | true =>
   rw [c2] at hev
   cases c3:twB l with
   | true =>
    rw [c3] at htw
    have hsp:=@Nat.succ_ne_zero;repeat' (first|simp (disch:=first|exact dq|fail) only [go_sem,↓reduceIte,hsp,← eG,gn,hlen,t1,hev,htw]|refine WP_drw ?_|refine cnd_intro (fun hsp=>?_) fun hsp=>?_)
    refine fI ?_ (by rw [eG];exact .app (.app .refl))
    unfold ordL
    rw [if_neg (by simp [c1]),if_neg (by rw [c2];simp),if_pos c3]
   | false =>
    rw [c3] at htw
    have hsp:=@Nat.succ_ne_zero;repeat' (first|simp (disch:=first|exact dq|fail) only [go_sem,↓reduceIte,hsp,← eG,gn,hlen,t1,hev,htw]|refine WP_drw ?_|refine cnd_intro (fun hsp=>?_) fun hsp=>?_)
    refine fI ?_ (by rw [eG];exact .app (.app .refl))
    unfold ordL
    rw [if_neg (by simp [c1]),if_neg (by rw [c2];simp),if_neg (by simp [c3])]
 ·have t1:((l.length:Int)=n)=False:=eq_false c1
  have hsp:=@Nat.succ_ne_zero;repeat' (first|simp (disch:=first|exact dq|fail) only [go_sem,↓reduceIte,hsp,← eG,gn,hlen,t1]|refine WP_drw ?_|refine cnd_intro (fun hsp=>?_) fun hsp=>?_)
  refine fI ?_ (by rw [eG];exact .app .refl)
  unfold ordL
  rw [if_pos c1]
theorem ordL_iff {l:List Int} {n:Nat}:ordL l n=0 ↔ Ord n l:=by
 unfold ordL Ord twB
 by_cases c1:l.length=n
 ·rw [if_neg (by omega)]
  by_cases c2:(l.all fun k=>decide (0≤k∧k≤(n:Int)-1))=true
  ·rw [if_neg (by simp only [c2,not_true_eq_false,not_false_eq_true])]
   have h2:∀ x ∈ l,0≤x∧x<(n:Int):=fun x hx=>by
    have:=of_decide_eq_true (List.all_eq_true.1 c2 x hx)
    omega
   by_cases c3:l.Nodup
   ·rw [if_neg (by simp [c3])]
    exact ⟨fun _=>⟨c1,h2,c3⟩,fun _=>rfl⟩
   ·rw [if_pos (by simp [c3])]
    exact ⟨fun q=>by omega,fun q=>absurd q.2.2 c3⟩
  ·rw [if_pos c2]
   refine ⟨fun q=>by omega,fun q=>absurd (List.all_eq_true.2 fun x hx=>decide_eq_true ?_) c2⟩
   have:=q.2.1 x hx
   omega
 ·rw [if_pos (by omega)]
  exact ⟨fun q=>by omega,fun q=>absurd q.1 c1⟩
def aloL (l:List Int):Int:=if ¬ (1≤(l.length:Int)∧(l.length:Int)≤7) then 2 else ordL l l.length
theorem run_alone {base:Nat} {h:Heap} {v:AVal} {l:List Int} (hI:Ints h v l):callL prog raw base (.fn 21 [] []) [v] h=some (.int .i64 (aloL l),h):=by
 have hl:=hI.1.1
 have hlen:=lenI hI
 by_cases c1:1≤(l.length:Int)∧(l.length:Int)≤7
 ·have ho:=fun base=>run_ordered (base:=base) (n:=(l.length:Int)) hI (by omega)
  have t1:decide (1≤(l.length:Int)∧(l.length:Int)≤7)=true:=decide_eq_true c1
  refine callL_run func21 rfl rfl ?_
  have hsp:=@Nat.succ_ne_zero;repeat' (first|simp (disch:=first|exact dq|fail) only [go_sem,↓reduceIte,hsp,hlen,t1,ho]|refine WP_drw ?_|refine cnd_intro (fun hsp=>?_) fun hsp=>?_)
  refine fI ?_
  unfold aloL
  rw [if_neg (by simpa using c1)]
 ·have t1:decide (1≤(l.length:Int)∧(l.length:Int)≤7)=false:=decide_eq_false c1
  refine callL_run func21 rfl rfl ?_
  have hsp:=@Nat.succ_ne_zero;repeat' (first|simp (disch:=first|exact dq|fail) only [go_sem,↓reduceIte,hsp,hlen,t1]|refine WP_drw ?_|refine cnd_intro (fun hsp=>?_) fun hsp=>?_)
  refine fI ?_
  unfold aloL
  rw [if_pos c1]
theorem aloL_iff {l:List Int}:aloL l=0 ↔ 1≤l.length∧l.length≤7∧Ord l.length l:=by
 unfold aloL
 by_cases c1:1≤(l.length:Int)∧(l.length:Int)≤7
 ·rw [if_neg (by simpa using c1),ordL_iff]
  exact ⟨fun q=>⟨by omega,by omega,q⟩,fun q=>q.2.2⟩
 ·rw [if_pos c1]
  exact ⟨fun q=>by omega,fun q=>absurd (by omega) c1⟩
end Go.AM
namespace Go.AM
open Go.Proofs.Tryz
attribute [-go_sem] put_ne put_same
attribute [local go_sem ↓] put_if
theorem pow_le {w:Int} (h0:0≤w) (h1:w≤60):1≤(2:Int) ^ w.toNat∧(2:Int) ^ w.toNat≤1152921504606846976:=by
 have h2:w.toNat≤60:=by omega
 have h3:(2:Nat) ^ w.toNat≤2 ^ 60:=Nat.pow_le_pow_right (by decide) h2
 have h4:1≤(2:Nat) ^ w.toNat:=Nat.one_le_two_pow
 have h5:((2:Int) ^ w.toNat)=((2 ^ w.toNat:Nat):Int):=by simp
 rw [h5]
 have h6:(2:Nat) ^ 60=1152921504606846976:=by decide
 omega
theorem shl_one {w:Int} (h0:0≤w) (h1:w≤60):binA prog .shl 3 (.int .i64 1) (.int .i64 w)=some (.int .i64 (2 ^ w.toNat)):=by
 rw [bin_shl h0]
 have hm:min w.toNat IntKind.i64.bits=w.toNat:=by
  have:IntKind.i64.bits=64:=rfl
  omega
 have:=pow_le h0 h1
 rw [hm,Int.one_mul,wrap64 (by omega) (by omega)]
theorem andN {t:TypeId} {a b:Nat} (ha:a<2 ^ 62) (hb:b<2 ^ 62):binA prog .and t (.int .i64 (a:Int)) (.int .i64 (b:Int))=some (.int .i64 ((a &&& b:Nat):Int)):=by
 have hx:a &&& b<2 ^ 62:=Nat.and_lt_two_pow _ hb
 have e:BitVec.ofInt 64 (a:Int) &&& BitVec.ofInt 64 (b:Int)=BitVec.ofNat 64 (a &&& b):=by
  apply BitVec.eq_of_toNat_eq
  simp only [BitVec.toNat_and,BitVec.toNat_ofInt,BitVec.toNat_ofNat]
  have h3:(a:Int) % ((2 ^ 64:Nat):Int)=a:=Int.emod_eq_of_lt (by omega) (by omega)
  have h4:(b:Int) % ((2 ^ 64:Nat):Int)=b:=Int.emod_eq_of_lt (by omega) (by omega)
  rw [h3,h4,Nat.mod_eq_of_lt (by omega)]
  rfl
 show some (AVal.int .i64 (IntKind.i64.wrap ((BitVec.ofInt 64 (a:Int) &&& BitVec.ofInt 64 (b:Int)).toNat:Int)))=_
 rw [e,BitVec.toNat_ofNat,Nat.mod_eq_of_lt (by omega),wrap64 (by omega) (by omega)]
theorem andNotN {t:TypeId} {a b:Nat} (ha:a<2 ^ 62) (hb:b<2 ^ 62):∃ x:Nat,binA prog .andNot t (.int .i64 (a:Int)) (.int .i64 (b:Int))=some (.int .i64 (x:Int))∧(x=0 ↔ a &&& b=a):=by
 refine ⟨(BitVec.ofInt 64 (a:Int) &&& ~~~ BitVec.ofInt 64 (b:Int)).toNat,?_,?_⟩
 ·have h1:(BitVec.ofInt 64 (a:Int) &&& ~~~ BitVec.ofInt 64 (b:Int)).toNat≤a:=by
   rw [BitVec.toNat_and,BitVec.ofInt_natCast,BitVec.toNat_ofNat,Nat.mod_eq_of_lt (by omega)]
   exact Nat.and_le_left
  show some (AVal.int .i64 (IntKind.i64.wrap ((BitVec.ofInt 64 (a:Int) &&& ~~~ BitVec.ofInt 64 (b:Int)).toNat:Int)))=_
  rw [wrap64 (by omega) (by omega)]
 ·have hbit:∀ i,(BitVec.ofInt 64 (a:Int) &&& ~~~ BitVec.ofInt 64 (b:Int)).toNat.testBit i=(a.testBit i && !b.testBit i):=fun i=>by
   rw [BitVec.testBit_toNat,BitVec.getLsbD_and,BitVec.getLsbD_not,BitVec.ofInt_natCast,BitVec.ofInt_natCast,BitVec.getLsbD_ofNat,BitVec.getLsbD_ofNat]
   by_cases h:i<64
   ·simp [h]
   ·have:a.testBit i=false:=Nat.testBit_lt_two_pow (Nat.lt_of_lt_of_le ha (Nat.pow_le_pow_right (by decide) (by omega)))
    simp [this]
  constructor
  ·intro h0
   refine Nat.eq_of_testBit_eq fun i=>?_
   have:=hbit i
   rw [h0,Nat.zero_testBit] at this
   rw [Nat.testBit_and]
   revert this
   cases a.testBit i<;>cases b.testBit i<;>simp
  ·intro h0
   refine Nat.eq_of_testBit_eq fun i=>?_
   rw [hbit i,Nat.zero_testBit]
   have:(a &&& b).testBit i=a.testBit i:=by rw [h0]
   rw [Nat.testBit_and] at this
   revert this
   cases a.testBit i<;>cases b.testBit i<;>simp
theorem idxF_R {base:Nat} {h:Heap} {v g:AVal} {l:List Rw3} (p:Rw3→Bool) (hR:Rows encR h v l) (h1:One g) (hg:∀ base x,x ∈ l→callL prog raw base g [.agg (encR.cells x)] h=some (.bool (p x),h)) :
  callL prog raw base (.fn 127 [] []) [v,g] h=some (.int .i64 (idx p l),h):=by
 have hl:l.length<2 ^ 60:=hR.1
 have hv1:=hR.one
 refine callL_run func127 rfl rfl ?_
 have hsp:=@Nat.succ_ne_zero;repeat' (first|simp (disch:=first|exact dq|fail) only [go_sem,↓reduceIte,hsp,hR.len Fc.el23]|refine WP_drw ?_|refine cnd_intro (fun hsp=>?_) fun hsp=>?_)
 refine WP_count [(4,5),(8,18)] 0 l.length (Nat.zero_le _) (fun _ n fr H=>fr 8=.int .i64 (n:Int)∧H=h∧∀ x ∈ l.take n,p x=false) ?_ ?_ ?_
 ·exact ⟨by (simp (disch:=first|exact dq|fail) only [go_sem,↓reduceIte,Int.natCast_zero];first|done|rfl),rfl,fun x hx=>by simp at hx⟩
 ·rintro n fr H hn0 hn hA ⟨r8,rfl,hP⟩
  have q0:=hA 0 rfl
  have q1:=hA 1 rfl
  have q7:=hA 7 rfl
  try simp (disch:=first|exact dq|fail) only [go_sem,↓reduceIte] at q0 q1 q7
  have hlt:((n:Int)<(l.length:Int))=True:=eq_true (by omega)
  have hx:l[n]?=some l[n]:=List.getElem?_eq_getElem hn
  have had:=hR.addr (P:=prog) (i:=(n:Int)) Fc.el23 Fc.ar23 (by omega) (by omega)
  rw [Int.toNat_natCast] at had
  have hld:=hR.load (P:=prog) Fc.ty28 hx
  have hc:=fun base=>hg base l[n] (List.getElem_mem hn)
  simp only [encR] at had hld hc
  cases hp:p l[n] with
  | true =>
   rw [hp] at hc
   have hsp:=@Nat.succ_ne_zero;repeat' (first|simp (disch:=first|exact dq|fail) only [go_sem,↓reduceIte,hsp,r8,q0,q1,q7,hlt,had,hld,hc]|refine WP_drw ?_|refine cnd_intro (fun hsp=>?_) fun hsp=>?_)
   rw [idx_hit p hn hP hp]
   all_goals (first|refine fI ?_|refine fB ?_|refine fII ?_ ?_|refine fBI ?_ ?_|refine fIII ?_ ?_ ?_|refine fIIB ?_ ?_ ?_|skip);all_goals (try dsimp only);all_goals (try with_reducible rfl);all_goals (try omega)
  | false =>
   rw [hp] at hc
   have hsp:=@Nat.succ_ne_zero;repeat' (first|simp (disch:=first|exact dq|fail) only [go_sem,↓reduceIte,hsp,r8,q0,q1,q7,hlt,had,hld,hc]|refine WP_drw ?_|refine cnd_intro (fun hsp=>?_) fun hsp=>?_)
   exact ⟨agq,by omega,take_next p hn hP hp⟩
 ·rintro fr H hA ⟨r8,rfl,hP⟩
  have q0:=hA 0 rfl
  have q1:=hA 1 rfl
  have q7:=hA 7 rfl
  try simp (disch:=first|exact dq|fail) only [go_sem,↓reduceIte] at q0 q1 q7
  have hlt:((l.length:Int)<(l.length:Int))=False:=eq_false (by omega)
  have hsp:=@Nat.succ_ne_zero;repeat' (first|simp (disch:=first|exact dq|fail) only [go_sem,↓reduceIte,hsp,r8,q0,q1,q7,hlt]|refine WP_drw ?_|refine cnd_intro (fun hsp=>?_) fun hsp=>?_)
  rw [idx_miss p hP]
  all_goals (first|refine fI ?_|refine fB ?_|refine fII ?_ ?_|refine fBI ?_ ?_|refine fIII ?_ ?_ ?_|refine fIIB ?_ ?_ ?_|skip);all_goals (try dsimp only);all_goals (try with_reducible rfl);all_goals (try omega)
theorem anyF_R {base:Nat} {h:Heap} {v g:AVal} {l:List Rw3} (p:Rw3→Bool) (hR:Rows encR h v l) (h1:One g) (hg:∀ base x,x ∈ l→callL prog raw base g [.agg (encR.cells x)] h=some (.bool (p x),h)) :
  callL prog raw base (.fn 108 [] []) [v,g] h=some (.bool (l.any p),h):=by
 have hi:=fun base=>idxF_R (base:=base) p hR h1 hg
 have hv1:=hR.one
 have h0:=idx_any p l
 refine callL_run func108 rfl rfl ?_
 have hsp:=@Nat.succ_ne_zero;repeat' (first|simp (disch:=first|exact dq|fail) only [go_sem,↓reduceIte,hsp,hi]|refine WP_drw ?_|refine cnd_intro (fun hsp=>?_) fun hsp=>?_)
 refine fB ?_
 by_cases h1:l.any p=true
 ·rw [h1];simpa using h0.2 h1
 ·have h2:¬ 0≤idx p l:=fun h=>h1 (h0.1 h)
  simp only [Bool.not_eq_true] at h1
  rw [h1];simpa using h2
theorem not_R {base id:Nat} {h:Heap} {g:AVal} {x:Rw3} {b:Bool} (hid:h[id]?=some ⟨.cells [g] 106 false false,0⟩) (hg:∀ base T,callL prog raw base g [.agg (encR.cells x)] (h++T)=some (.bool b,h++T)) :
  callL prog raw base (.fn 109 [] [.ptr (some ⟨id,0,0⟩)]) [.agg (encR.cells x)] h=some (.bool (!b),h):=by
 have hgi:=lt_of_get hid
 simp only [encR] at hg ⊢
 have hg0:∀ base,callL prog raw base g [.agg [.int .i64 x.1,.int .i64 x.2.1,.int .i64 x.2.2]] h=some (.bool b,h):=fun base=>by have:=hg base [];rwa [List.append_nil] at this
 refine callL_run func109 rfl rfl ?_
 have hsp:=@Nat.succ_ne_zero;repeat' (first|simp (disch:=first|exact dq|fail) only [go_sem,↓reduceIte,hsp,hid,hg,hg0]|refine WP_drw ?_|refine cnd_intro (fun hsp=>?_) fun hsp=>?_)
 exact fB rfl
theorem every_R {base:Nat} {h:Heap} {v g:AVal} {l:List Rw3} (p:Rw3→Bool) (hR:Rows encR h v l) (h1:One g) (hg:∀ base T x,x ∈ l→callL prog raw base g [.agg (encR.cells x)] (h++T)=some (.bool (p x),h++T)) :
  callL prog raw base (.fn 67 [] []) [v,g] h=some (.bool (l.all p),h):=by
 have hv1:=hR.one
 have hc:=fun base=>anyF_R (base:=base) (h:=h++[⟨.cells [g] 106 false false,0⟩]) (g:=.fn 109 [] [.ptr (some ⟨h.length,0,0⟩)]) (fun x=>!p x) hR.app ⟨rfl,rfl,rfl⟩ (fun base x hx=>not_R (x:=x) (get_eq rfl) (fun base T=>by have:=hg base ([⟨.cells [g] 106 false false,0⟩]++T) x hx;rwa [← List.append_assoc] at this))
 refine callL_run func67 rfl rfl ?_
 have hsp:=@Nat.succ_ne_zero;repeat' (first|simp (disch:=first|exact dq|fail) only [go_sem,↓reduceIte,hsp,hc]|refine WP_drw ?_|refine cnd_intro (fun hsp=>?_) fun hsp=>?_)
 refine fB ?_
 rw [List.any_eq_not_all_not]
 simp
end Go.AM
