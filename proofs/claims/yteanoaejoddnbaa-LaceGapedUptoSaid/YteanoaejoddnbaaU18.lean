/-
  What is found of a chain with any rows; rings and gaps that are returned.
-/
import Derived.Test.YteanoaejoddnbaaU17
import Derived.Test.YteanoaejoddnbaaU0
import Derived.Shelf.Spec.SlicesInsert
import Derived.Shelf.Spec.SlicesInsertGrow
import Derived.Test.YteanoaejoddnbaaU14
import Derived.Test.YteanoaejoddnbaaU12
import Derived.Shelf.Sort.Plain
import Derived.Test.YteanoaejoddnbaaU16
set_option linter.unusedSimpArgs false
set_option linter.unusedVariables false
namespace Go.AM
open Go.Proofs.Try
attribute [-go_sem] put_ne put_same
attribute [local go_sem ↓] put_if
theorem xorN {t:TypeId} {a b:Nat} (ha:a<2 ^ 62) (hb:b<2 ^ 62):binA prog .xor t (.int .i64 (a:Int)) (.int .i64 (b:Int))=some (.int .i64 ((a ^^^ b:Nat):Int)):=by
 have hx:a ^^^ b<2 ^ 62:=Nat.xor_lt_two_pow ha hb
 have e:BitVec.ofInt 64 (a:Int) ^^^ BitVec.ofInt 64 (b:Int)=BitVec.ofNat 64 (a ^^^ b):=by
  apply BitVec.eq_of_toNat_eq
  simp only [BitVec.toNat_xor,BitVec.toNat_ofInt,BitVec.toNat_ofNat]
  have h3:(a:Int) % ((2 ^ 64:Nat):Int)=a:=Int.emod_eq_of_lt (by omega) (by omega)
  have h4:(b:Int) % ((2 ^ 64:Nat):Int)=b:=Int.emod_eq_of_lt (by omega) (by omega)
  rw [h3,h4,Nat.mod_eq_of_lt (by omega)]
  rfl
 show some (AVal.int .i64 (IntKind.i64.wrap ((BitVec.ofInt 64 (a:Int) ^^^ BitVec.ofInt 64 (b:Int)).toNat:Int)))=_
 rw [e,BitVec.toNat_ofNat,Nat.mod_eq_of_lt (by omega),wrap64 (by omega) (by omega)]
theorem wrong_row {L:Lac} {r:Rw3} {x:Nat} (h:(0≤r.1∧r.1≤999)∧(0≤r.2.1∧r.2.1≤2 ^ L.T.toNat-1)∧(0≤r.2.2∧r.2.2≤2 ^ L.T.toNat-1)∧r.2.2.toNat &&& r.2.1.toNat=r.2.2.toNat) (hL:LacOk L) (hl:L.R.length+1≤12) :
  LacOk (moreR L (r.1,r.2.1,((r.2.2.toNat ^^^ (r.2.1.toNat &&& x):Nat):Int))):=by
 obtain ⟨k1,k2,k3,k4⟩:=h
 have hs:(r.2.2.toNat ^^^ (r.2.1.toNat &&& x)) &&& r.2.1.toNat=r.2.2.toNat ^^^ (r.2.1.toNat &&& x):=by
  rw [Nat.and_xor_distrib_right,k4,Nat.and_assoc,Nat.and_comm x,← Nat.and_assoc,Nat.and_self]
 have hle:r.2.2.toNat ^^^ (r.2.1.toNat &&& x)≤r.2.1.toNat:=by rw [← hs];exact Nat.and_le_right
 refine ⟨hL.T,hL.n,by simp [moreR];omega,hL.c,fun y hy=>?_,hL.d⟩
 rcases List.mem_append.1 hy with q|q
 ·exact hL.r y q
 ·rw [List.mem_singleton] at q
  subst q
  exact ⟨k1,k2,by simp only;show _∧_≤(2:Int) ^ L.T.toNat-1;omega,by simp only [Int.toNat_natCast];exact hs⟩
end Go.AM
namespace Go.AM
open Go.Proofs.Try
attribute [-go_sem] put_ne put_same
attribute [local go_sem ↓] put_if
structure Fnd (h K:Heap) (b:Nat) (v1:AVal) (l1:List Int) (T:Int) (C o:List Int) (cv ov:AVal) (kq:Nat) (rw':AVal) (Ri:List Rw3) (i:Nat):Prop where
 fq:K[h.length+1]?=some (spB v1 l1 kq)
 fk:kq≤10 * i
 ext:Ext h K
 fb:h.length+2≤b∧b<K.length
 fg:K[b]?=some (lacB T cv rw')
 oC:OwnE encI 3 (h.length+2) K cv C
 oO:OwnE encI 3 (h.length+2) K ov o
 oR:OwnE encR 70 (h.length+2) K rw' Ri
 ok:LacOk ⟨T,C,Ri⟩
 rl:Ri.length≤8+i
 first:i=0→o ∈ fnd ⟨T,C,Ri⟩
end Go.AM
namespace Go.AM
open Go.Shelf Go.Lib Go.Proofs
section
variable {w:World} {b:Nat} {T:TypeId} {fz:Nat × Nat}
end
end Go.AM
namespace Go.AM
open Go.Proofs.Try
attribute [-go_sem] put_ne put_same
attribute [local go_sem ↓] put_if
def insRen:Go.Shelf.Ren:=⟨fun x=>match x with
  | 21=>140
  | 27=>166
  | 28=>167
  | 35=>192
  | 39=>22
  | n=>n,
 fun x=>match x with
  | 22=>25
  | 3=>3
  | 4=>4
  | n=>n,
 fun n=>n⟩
theorem insT0:insRen.t 0=0:=rfl
theorem insT3:insRen.t 3=3:=rfl
theorem insT4:insRen.t 4=4:=rfl
theorem insT22:insRen.t 22=25:=rfl
end Go.AM
namespace Go.AM
def cmpK (l:List Int):Nat→Nat
 | 0=>0
 | n+1=>cmpK l n+if n=0 ∨ l.getD n 0 ≠ l.getD (n-1) 0 then 1 else 0
theorem filter_one {α:Type} [DecidableEq α] {p:α→Bool} {a:α}:∀ {u:List α},u.Nodup→a ∈ u→p a=false→(u.filter fun x=>p x || decide (x=a)).length=(u.filter p).length+1
 | [],_,h,_=>by cases h
 | b :: u,hd,h,hp=>by
  rw [List.nodup_cons] at hd
  by_cases e:b=a
  ·subst e
   have hr:(u.filter fun x=>p x || decide (x=b))=u.filter p:=by
    refine List.filter_congr fun x hx=>?_
    have:x ≠ b:=fun q=>hd.1 (q ▸ hx)
    simp [this]
   rw [List.filter_cons_of_pos (by simp),List.filter_cons_of_neg (by simp [hp]),hr,List.length_cons]
  ·have hm:a ∈ u:=by
    rcases List.mem_cons.1 h with q|q
    ·exact absurd q.symm e
    ·exact q
   have ih:=filter_one (p:=p) hd.2 hm hp
   by_cases c:p b=true
   ·rw [List.filter_cons_of_pos (by simp [c]),List.filter_cons_of_pos c,List.length_cons,List.length_cons,ih]
   ·rw [List.filter_cons_of_neg (by simp [c,e]),List.filter_cons_of_neg c,ih]
theorem cmpK_is {N:Nat} {l:List Int} (hs:l.Pairwise (·≤·)) (hb:∀ x ∈ l,0≤x∧x<(N:Int)):∀ {n},n≤l.length→cmpK l n=((upto N).filter fun x=>decide (x ∈ l.take n)).length
 | 0,_=>by
  rw [List.take_zero,List.filter_eq_nil_iff.2 (by simp)];rfl
 | n+1,hn=>by
  have ih:=cmpK_is hs hb (n:=n) (by omega)
  have hg:l[n]?=some (l.getD n 0):=by rw [List.getD_eq_getElem?_getD,List.getElem?_eq_getElem (by omega)];rfl
  have htk:l.take (n+1)=l.take n++[l.getD n 0]:=by rw [List.take_add_one,hg];rfl
  obtain ⟨a,ea⟩:∃ a,a=l.getD n 0:=⟨_,rfl⟩
  have hal:a ∈ l:=by rw [ea];exact getD_mem' (by omega)
  have hau:a ∈ upto N:=upto_mem.2 (hb a hal)
  unfold cmpK
  rw [htk,← ea]
  by_cases c:n=0 ∨ l.getD n 0 ≠ l.getD (n-1) 0
  ·rw [if_pos (by rw [ea];exact c),ih]
   have hno:a ∉ l.take n:=by
    intro q
    obtain ⟨j,hj,e⟩:=List.mem_iff_getElem.1 q
    rw [List.length_take] at hj
    rw [List.getElem_take] at e
    rcases c with c|c
    ·omega
    ·have h1:l[j]≤l[n-1]:=by
      by_cases q:j=n-1
      ·simp [q]
      ·exact List.pairwise_iff_getElem.1 hs j (n-1) (by omega) (by omega) (by omega)
     have h2:l[n-1]≤l[n]:=List.pairwise_iff_getElem.1 hs (n-1) n (by omega) (by omega) (by omega)
     have e1:l.getD n 0=l[n]:=getD_at (by omega)
     have e2:l.getD (n-1) 0=l[n-1]:=getD_at (by omega)
     omega
   have:=filter_one (p:=fun x=>decide (x ∈ l.take n)) ((upto_sorted N).imp fun q=>by omega:(upto N).Nodup) hau (decide_eq_false hno)
   rw [← this]
   congr 2
   funext x
   rw [Bool.eq_iff_iff]
   simp
  ·rw [if_neg (by rw [ea];exact c),ih,Nat.add_zero]
   have hin:a ∈ l.take n:=by
    have c1:n ≠ 0:=fun q=>c (.inl q)
    have c2:l.getD n 0=l.getD (n-1) 0:=Classical.byContradiction fun q=>c (.inr q)
    have e2:l.getD (n-1) 0=l[n-1]:=getD_at (by omega)
    rw [ea,c2,e2,List.mem_take_iff_getElem]
    exact ⟨n-1,by omega,rfl⟩
   congr 2
   funext x
   rw [Bool.eq_iff_iff]
   simp
   exact fun q=>by subst q;exact hin
def fitsL (L:Lac) (gap:List Int):List Int:=gap.flatMap fun p=>(upto L.C.length).filter fun k=>fitB L p.toNat k.toNat
theorem fitsL_bd {L:Lac} {gap:List Int} {x:Int} (h:x ∈ fitsL L gap):0≤x∧x<(L.C.length:Int):=by
 obtain ⟨p,_,q⟩:=List.mem_flatMap.1 h
 exact upto_mem.1 (List.mem_filter.1 q).1
theorem fitsL_len {L:Lac} {gap:List Int}:(fitsL L gap).length≤gap.length * L.C.length:=by
 unfold fitsL
 induction gap with
 | nil=>simp
 | cons p g ih =>
  rw [List.flatMap_cons,List.length_append,List.length_cons,Nat.succ_mul]
  have:=List.length_filter_le (fun k:Int=>fitB L p.toNat k.toNat) (upto L.C.length)
  rw [upto_len] at this
  omega
theorem fitsL_count {L:Lac} {gap m:List Int} (hp:m.Perm (fitsL L gap)) (hs:m.Pairwise (·≤·)):cmpK m m.length=fittN L gap:=by
 rw [cmpK_is (N:=L.C.length) hs (fun x hx=>fitsL_bd (hp.mem_iff.1 hx)) (Nat.le_refl _),List.take_length]
 unfold fittN
 congr 1
 refine List.filter_congr fun x hx=>?_
 rw [Bool.eq_iff_iff,decide_eq_true_eq,hp.mem_iff]
 unfold fitsL
 rw [List.mem_flatMap,List.any_eq_true]
 constructor
 ·rintro ⟨p,h1,h2⟩
  exact ⟨p,h1,(List.mem_filter.1 h2).2⟩
 ·rintro ⟨p,h1,h2⟩
  exact ⟨p,h1,List.mem_filter.2 ⟨hx,h2⟩⟩
end Go.AM
namespace Go.AM
open Go.Shelf Go.Sort Go.Proofs
theorem srtF_of {P:Program} {ρ:Ren} (L:Lays.n189 P ρ):SrtF P (ρ.f 189) (ρ.t 3):=by
 refine ⟨L.z3,?_⟩
 intro b off c zs C T fz w hn hb hC hfz
 have hbs:b<w.heap.size:=(Array.getElem?_eq_some_iff.1 hb).1
 have hH:Holds (Value.int .i64) w b off zs.toArray:=fun j hj=>by
  have hj:j<zs.length:=by simpa using hj
  have e:(zs.toArray[j]!)=zs.getD j 0:=by
   rw [getElem!_pos _ j (by simpa using hj),List.getElem_toArray,List.getD_eq_getElem?_getD,List.getElem?_eq_getElem hj];rfl
  refine ⟨?_,?_⟩
  ·simp only [World.cell?,hb]
   rw [hC j hj,e]
   rfl
  ·have:=hfz (off+j) (by omega) (by omega)
   simp only [World.frozen?,hb,Bool.and_eq_false_iff,decide_eq_false_iff_not]
   omega
 refine (Any.slices_Sort_int L b off c zs w hH hbs (by omega)).mono fun r w' ⟨h1,n,os,h2⟩=>?_
 obtain ⟨S,eS⟩:∃ S,S=zs.mergeSort fun x y=>decide (x≤y):=⟨_,rfl⟩
 have hSl:S.length=zs.length:=by rw [eS,List.length_mergeSort]
 rw [← eS] at h2 ⊢
 have hk:∀ k,k<w.heap.size→w'.heap[k]?=(putRow (Value.int .i64) (Sort.ahead w n) b off S.toArray).heap[k]?:=fun k hk=>by
  rw [h2]
  show ((putRow (Value.int .i64) (Sort.ahead w n) b off S.toArray).heap++os)[k]?=_
  rw [Array.getElem?_append_left]
  show k<((Sort.ahead w n).heap.modify b _).size
  rw [Array.size_modify];exact hk
 refine ⟨h1,⟨by rw [h2];rfl,by rw [h2];rfl,by rw [h2];rfl⟩,?_,fun k hk1 hk2=>?_,putCells (Value.int .i64) off S.toArray C,?_,?_,fun j=>?_⟩
 ·rw [h2,size_grow]
  show w.heap.size≤((Sort.ahead w n).heap.modify b _).size+os.size
  rw [Array.size_modify]
  exact Nat.le_add_right _ _
 ·rw [hk k hk1]
  show ((Sort.ahead w n).heap.modify b _)[k]?=_
  rw [Array.getElem?_modify,if_neg (fun e=>hk2 e.symm)]
  rfl
 ·rw [hk b hbs]
  show ((Sort.ahead w n).heap.modify b _)[b]?=_
  rw [Array.getElem?_modify,if_pos rfl]
  show Option.map _ w.heap[b]?=_
  rw [hb]
  rfl
 ·simp [putCells]
 ·unfold putCells
  rw [Array.getElem?_mapIdx]
  by_cases hj:j<C.size
  ·rw [Array.getElem?_eq_getElem hj,Option.map_some]
   by_cases d:off≤j∧j<off+zs.length
   ·rw [if_pos ⟨d.1,by simpa [hSl] using d.2⟩,if_pos ⟨d.1,d.2,hj⟩,getElem!_pos _ (j-off) (by simp;omega),List.getElem_toArray,List.getD_eq_getElem?_getD,List.getElem?_eq_getElem (by omega)];rfl
   ·rw [if_neg (by simpa [hSl] using d),if_neg (fun q=>d ⟨q.1,q.2.1⟩)]
  ·rw [Array.getElem?_eq_none (by omega),Option.map_none,if_neg (fun q=>hj q.2.2)]
end Go.AM
namespace Go.AM
open Go.Proofs.Try
theorem cmpK_id {l:List Int}:∀ {i},(∀ j,j<i→0<j→l.getD j 0 ≠ l.getD (j-1) 0)→cmpK l i=i
 | 0,_=>rfl
 | i+1,h=>by
  unfold cmpK
  rw [cmpK_id (i:=i) fun j hj h0=>h j (by omega) h0,if_pos]
  by_cases c:i=0
  ·exact .inl c
  ·exact .inr (h i (by omega) (by omega))
theorem getD_setN {l:List Int} {i j:Nat} {b:Int} (h:j ≠ i):(l.set i b).getD j 0=l.getD j 0:=by
 rw [List.getD_eq_getElem?_getD,List.getD_eq_getElem?_getD,List.getElem?_set_ne (fun e=>h e.symm)]
theorem clr_part2 {base id ver o n k:Nat} {H:Heap} {m:List Int} (hg:H[id]?=some (rowB m ver)) (hn:0<n) (ho:o+n≤m.length):∃ m':List Int,m'.length=m.length∧clearA prog base H 25 (.slice (some ⟨id,ver,o⟩) n k)=some (.tuple [],H.set id (rowB m' ver)):=by
 have hrep:∀ j,repCells [AVal.int .i64 0] j=ints (lst (fun _=>0) j):=fun j=>by
  induction j with
  | zero=>rfl
  | succ j ih =>
   rw [repCells,ih]
   simp [ints,lst,List.range_succ_eq_map,List.map_map]
 obtain ⟨m',h1,h2⟩:=splice_ints (lst (fun _=>0) n) m o
 refine ⟨m',h2,?_⟩
 cases n with
 | zero=>omega
 | succ n =>
  simp only [clearA,Fc.el25,hrep,store_eq,hg,rowB,stQ]
  rw [if_pos ⟨trivial,by rw [ints_length,ints_length,lst_len];exact ho,ints_scalar _,.inr (ints_bare _)⟩,h1]
set_option maxHeartbeats 2000000 in
theorem run_compactN {base id ver:Nat} {h:Heap} {l:List Int} (hg:h[id]?=some (rowB l ver)) (hs:Small l) :
  Ret prog raw base (.fn 87 [] []) [.slice (some ⟨id,ver,0⟩) l.length l.length] h (fun v H=>∃ m:List Int,v=.slice (some ⟨id,ver,0⟩) (cmpK l l.length) l.length∧H=h.set id (rowB m ver)∧m.length=l.length):=by
 have hid:=lt_of_get hg
 have hl:l.length<1073741824:=hs.1
 have hself:h=h.set id (rowB l ver):=(set_id hg).symm
 refine ret_raw func87 rfl (by kernel_rfl) ?_
 by_cases h2:l.length<2
 ·have t1:((l.length:Int)<2)=True:=eq_true (by omega)
  have hsp:=@Nat.succ_ne_zero;repeat' (first|simp (disch:=first|exact dqb|fail) only [go_sem,hsp,t1,Fc.ln25]|refine WP_drw ?_|refine cnd_intro (fun hsp=>?_) fun hsp=>?_)
  exact ⟨l,by rw [cmpK_id fun j h1 h2=>by omega],hself,rfl⟩
 ·have t1:((l.length:Int)<2)=False:=eq_false (by omega)
  have hsp:=@Nat.succ_ne_zero;repeat' (first|simp (disch:=first|exact dqb|fail) only [go_sem,hsp,t1,Fc.ln25]|refine WP_drw ?_|refine cnd_intro (fun hsp=>?_) fun hsp=>?_)
  refine WP_loop (fun σ=>∃ i:Nat,σ.fr 3=.int .i64 (i:Int)∧σ.fr 0=.slice (some ⟨id,ver,0⟩) l.length l.length∧σ.h=h∧i≤l.length∧(1≤i∧∀ j,j<i→0<j→l.getD j 0 ≠ l.getD (j-1) 0)) (fun σ=>match σ.fr 3 with|.int _ x=>(((l.length:Nat):Int)-x).toNat|_=>0) ?_ ?_
  ·refine ⟨1,?_,?_,?_,by omega,?_⟩
   iterate 3 focus (first|rfl|(simp (disch:=first|exact dqb|fail) only [go_sem,Int.natCast_zero];first|done|rfl))
   exact ⟨Nat.le_refl _,fun j h1 h2=>by omega⟩
  ·rintro ⟨fr,hp⟩ ⟨i,r3,r0,rh,hi,hP⟩
   dsimp only at r3 r0 rh hi hP
   subst rh
   obtain ⟨hi1,hP⟩:=hP
   by_cases hn:i<l.length
   ·have hlt:((i:Int)<(l.length:Int))=True:=eq_true (by omega)
    have e1:((i:Int)-1).toNat=i-1:=by omega
    by_cases he:l.getD i 0=l.getD (i-1) 0
    ·have t2:(l.getD i 0=l.getD (i-1) 0)=True:=eq_true he
     have hsp:=@Nat.succ_ne_zero;repeat' (first|simp (disch:=first|exact dqb|fail) only [go_sem,hsp,r3,r0,hlt,t2,e1,hg,sl_from,Fc.ln25,Fc.as25]|refine WP_drw ?_|refine cnd_intro (fun hsp=>?_) fun hsp=>?_)
     refine WP_loop (fun σ=>∃ (k2 k:Nat) (m:List Int),σ.fr 5=.int .i64 (k2:Int)∧σ.fr 3=.int .i64 (k:Int)∧σ.fr 0=.slice (some ⟨id,ver,0⟩) l.length l.length∧σ.fr 4=.slice (some ⟨id,ver,i⟩) (l.length-i) (l.length-i)∧σ.h=hp.set id (rowB m ver)∧m.length=l.length∧(1≤k2∧k2≤l.length-i)∧(i≤k∧k+1≤i+k2)∧k=cmpK l (i+k2)∧∀ j,i+k2≤j+1→m.getD j 0=l.getD j 0) (fun σ=>match σ.fr 5 with|.int _ x=>(((l.length-i:Nat):Int)-x).toNat|_=>0) ?_ ?_
     ·refine ⟨1,i,l,?_,?_,?_,?_,hself,rfl,by omega,by omega,?_,fun _ _=>rfl⟩
      ·simp (disch:=first|exact dqb|fail) only [go_sem]
      ·simp (disch:=first|exact dqb|fail) only [go_sem,r3,r0]
      ·simp (disch:=first|exact dqb|fail) only [go_sem,r3,r0]
      ·simp (disch:=first|exact dqb|fail) only [go_sem,r3,r0]
      ·have:=cmpK_id hP
       rw [cmpK,this,if_neg (by
        rintro (q|q)
        ·omega
        ·exact q he),Nat.add_zero]
     ·rintro ⟨fr2,hp2⟩ ⟨k2,k,m,q5,q3,q0,q4,rh2,hm,hk2,hk,hck,hag⟩
      dsimp only at q5 q3 q0 q4 rh2
      subst rh2
      have hgm:(hp.set id (rowB m ver))[id]?=some (rowB m ver):=by rw [List.getElem?_set_self hid]
      by_cases hn2:k2<l.length-i
      ·have hlt2:((k2:Int)<((l.length-i:Nat):Int))=True:=eq_true (by omega)
       have e2:((k2:Int)-1).toNat=k2-1:=by omega
       have g1:=hag (i+k2) (by omega)
       have g2:=hag (i+(k2-1)) (by omega)
       have hcs:cmpK l (i+(k2+1))=cmpK l (i+k2)+if i+k2=0 ∨ l.getD (i+k2) 0 ≠ l.getD (i+k2-1) 0 then 1 else 0:=rfl
       rw [show i+k2-1=i+(k2-1) by omega] at hcs
       by_cases he2:m.getD (i+k2) 0=m.getD (i+(k2-1)) 0
       ·have t3:(m.getD (i+k2) 0=m.getD (i+(k2-1)) 0)=True:=eq_true he2
        have hsp:=@Nat.succ_ne_zero;repeat' (first|simp (disch:=first|exact dqb|fail) only [go_sem,hsp,q5,q3,q0,q4,hlt2,t3,e2,hgm,hid,Fc.ln25,Fc.as25]|refine WP_drw ?_|refine cnd_intro (fun hsp=>?_) fun hsp=>?_)
        refine ⟨⟨k2+1,k,m,by simp,rfl,rfl,hm,by omega,by omega,?_,fun j hj=>hag j (by omega)⟩,by omega⟩
        rw [hcs,if_neg,hck,Nat.add_zero]
        rintro (q|q)
        ·omega
        ·rw [g1,g2] at he2;exact q he2
       ·have t3:(m.getD (i+k2) 0=m.getD (i+(k2-1)) 0)=False:=eq_false he2
        have hsp:=@Nat.succ_ne_zero;repeat' (first|simp (disch:=first|exact dqb|fail) only [go_sem,hsp,q5,q3,q0,q4,hlt2,t3,e2,hgm,hid,Fc.ln25,Fc.as25]|refine WP_drw ?_|refine cnd_intro (fun hsp=>?_) fun hsp=>?_)
        refine ⟨⟨k2+1,k+1,m.set k (m.getD (i+k2) 0),by simp,by simp,by first|rfl|exact List.set_set ..,by rw [List.length_set];exact hm,by omega,by omega,?_,fun j hj=>?_⟩,by omega⟩
        ·rw [hcs,if_pos,hck]
         rw [g1,g2] at he2;exact .inr he2
        ·rw [getD_setN (by omega)];exact hag j (by omega)
      ·have hlt2:((k2:Int)<((l.length-i:Nat):Int))=False:=eq_false (by omega)
       obtain ⟨m',hm',hcl⟩:=clr_part2 (base:=base) (o:=k) (n:=l.length-k) (k:=l.length-k) hgm (by omega) (by omega)
       have hsp:=@Nat.succ_ne_zero;repeat' (first|simp (disch:=first|exact dqb|fail) only [go_sem,hsp,q5,q3,q0,q4,hlt2,sl_from,sl_to,hcl,Fc.ln25]|refine WP_drw ?_|refine cnd_intro (fun hsp=>?_) fun hsp=>?_)
       refine ⟨m',?_,by first|rfl|exact List.set_set ..,by rw [hm',hm]⟩
       rw [hck,show i+k2=l.length by omega]
    ·have t2:(l.getD i 0=l.getD (i-1) 0)=False:=eq_false he
     have hsp:=@Nat.succ_ne_zero;repeat' (first|simp (disch:=first|exact dqb|fail) only [go_sem,hsp,r3,r0,hlt,t2,e1,hg,Fc.ln25,Fc.as25]|refine WP_drw ?_|refine cnd_intro (fun hsp=>?_) fun hsp=>?_)
     refine ⟨⟨i+1,by simp,by omega,by omega,fun j h1 h2=>?_⟩,by omega⟩
     by_cases e:j=i
     ·subst e;exact he
     ·exact hP j (by omega) h2
   ·have hlt:((i:Int)<(l.length:Int))=False:=eq_false (by omega)
    have hil:i=l.length:=by omega
    have hsp:=@Nat.succ_ne_zero;repeat' (first|simp (disch:=first|exact dqb|fail) only [go_sem,hsp,r3,r0,hlt,Fc.ln25]|refine WP_drw ?_|refine cnd_intro (fun hsp=>?_) fun hsp=>?_)
    exact ⟨l,by rw [cmpK_id (i:=l.length) fun j h1 h2=>hP j (by omega) h2],hself,rfl⟩
end Go.AM
namespace Go.AM
open Go.Proofs.Try
def srtRen:Go.Shelf.Ren:=⟨fun x=>match x with
  | 189=>86
  | 125=>150
  | 257=>149
  | 128=>183
  | 129=>184
  | 294=>175
  | 295=>176
  | 296=>177
  | 297=>178
  | 298=>179
  | 299=>180
  | 216=>116
  | 300=>181
  | 301=>182
  | 328=>198
  | 329=>199
  | 330=>200
  | 331=>201
  | 332=>202
  | 215=>160
  | 343=>204
  | n=>n,
 fun x=>match x with
  | 28=>25
  | 3=>3
  | 46=>175
  | 0=>0
  | 51=>201
  | 53=>120
  | 4=>4
  | 183=>194
  | 182=>193
  | 131=>198
  | 5=>5
  | 9=>9
  | 218=>209
  | 222=>213
  | 228=>216
  | 229=>182
  | n=>n,
 fun n=>n⟩
theorem srtB189:f86=Go.Proofs.Body.n189 srtRen:=by kernel_rfl
theorem srtF189:prog.funcs[srtRen.f 189]?=some (Go.Proofs.Body.n189 srtRen):=by
 have e:srtRen.f 189=86:=rfl
 rw [e,← srtB189];exact func86
theorem srtB125:f150=Go.Proofs.Body.n125 srtRen:=by kernel_rfl
theorem srtF125:prog.funcs[srtRen.f 125]?=some (Go.Proofs.Body.n125 srtRen):=by
 have e:srtRen.f 125=150:=rfl
 rw [e,← srtB125];exact func150
theorem srtB257:f149=Go.Proofs.Body.n257 srtRen:=by kernel_rfl
theorem srtF257:prog.funcs[srtRen.f 257]?=some (Go.Proofs.Body.n257 srtRen):=by
 have e:srtRen.f 257=149:=rfl
 rw [e,← srtB257];exact func149
theorem srtB128:f183=Go.Proofs.Body.n128 srtRen:=by kernel_rfl
theorem srtF128:prog.funcs[srtRen.f 128]?=some (Go.Proofs.Body.n128 srtRen):=by
 have e:srtRen.f 128=183:=rfl
 rw [e,← srtB128];exact func183
theorem srtB129:f184=Go.Proofs.Body.n129 srtRen:=by kernel_rfl
theorem srtF129:prog.funcs[srtRen.f 129]?=some (Go.Proofs.Body.n129 srtRen):=by
 have e:srtRen.f 129=184:=rfl
 rw [e,← srtB129];exact func184
theorem srtB294:f175=Go.Proofs.Body.n294 srtRen:=by kernel_rfl
theorem srtF294:prog.funcs[srtRen.f 294]?=some (Go.Proofs.Body.n294 srtRen):=by
 have e:srtRen.f 294=175:=rfl
 rw [e,← srtB294];exact func175
theorem srtB295:f176=Go.Proofs.Body.n295 srtRen:=by kernel_rfl
theorem srtF295:prog.funcs[srtRen.f 295]?=some (Go.Proofs.Body.n295 srtRen):=by
 have e:srtRen.f 295=176:=rfl
 rw [e,← srtB295];exact func176
theorem srtB296:f177=Go.Proofs.Body.n296 srtRen:=by kernel_rfl
theorem srtF296:prog.funcs[srtRen.f 296]?=some (Go.Proofs.Body.n296 srtRen):=by
 have e:srtRen.f 296=177:=rfl
 rw [e,← srtB296];exact func177
theorem srtB297:f178=Go.Proofs.Body.n297 srtRen:=by kernel_rfl
theorem srtF297:prog.funcs[srtRen.f 297]?=some (Go.Proofs.Body.n297 srtRen):=by
 have e:srtRen.f 297=178:=rfl
 rw [e,← srtB297];exact func178
theorem srtB298:f179=Go.Proofs.Body.n298 srtRen:=by kernel_rfl
theorem srtF298:prog.funcs[srtRen.f 298]?=some (Go.Proofs.Body.n298 srtRen):=by
 have e:srtRen.f 298=179:=rfl
 rw [e,← srtB298];exact func179
theorem srtB299:f180=Go.Proofs.Body.n299 srtRen:=by kernel_rfl
theorem srtF299:prog.funcs[srtRen.f 299]?=some (Go.Proofs.Body.n299 srtRen):=by
 have e:srtRen.f 299=180:=rfl
 rw [e,← srtB299];exact func180
theorem srtB216:f116=Go.Proofs.Body.n216 srtRen:=by kernel_rfl
theorem srtF216:prog.funcs[srtRen.f 216]?=some (Go.Proofs.Body.n216 srtRen):=by
 have e:srtRen.f 216=116:=rfl
 rw [e,← srtB216];exact func116
theorem srtB300:f181=Go.Proofs.Body.n300 srtRen:=by kernel_rfl
theorem srtF300:prog.funcs[srtRen.f 300]?=some (Go.Proofs.Body.n300 srtRen):=by
 have e:srtRen.f 300=181:=rfl
 rw [e,← srtB300];exact func181
theorem srtB301:f182=Go.Proofs.Body.n301 srtRen:=by kernel_rfl
theorem srtF301:prog.funcs[srtRen.f 301]?=some (Go.Proofs.Body.n301 srtRen):=by
 have e:srtRen.f 301=182:=rfl
 rw [e,← srtB301];exact func182
theorem srtB328:f198=Go.Proofs.Body.n328 srtRen:=by kernel_rfl
theorem srtF328:prog.funcs[srtRen.f 328]?=some (Go.Proofs.Body.n328 srtRen):=by
 have e:srtRen.f 328=198:=rfl
 rw [e,← srtB328];exact func198
theorem srtB329:f199=Go.Proofs.Body.n329 srtRen:=by kernel_rfl
theorem srtF329:prog.funcs[srtRen.f 329]?=some (Go.Proofs.Body.n329 srtRen):=by
 have e:srtRen.f 329=199:=rfl
 rw [e,← srtB329];exact func199
theorem srtB330:f200=Go.Proofs.Body.n330 srtRen:=by kernel_rfl
theorem srtF330:prog.funcs[srtRen.f 330]?=some (Go.Proofs.Body.n330 srtRen):=by
 have e:srtRen.f 330=200:=rfl
 rw [e,← srtB330];exact func200
theorem srtB331:f201=Go.Proofs.Body.n331 srtRen:=by kernel_rfl
theorem srtF331:prog.funcs[srtRen.f 331]?=some (Go.Proofs.Body.n331 srtRen):=by
 have e:srtRen.f 331=201:=rfl
 rw [e,← srtB331];exact func201
theorem srtB332:f202=Go.Proofs.Body.n332 srtRen:=by kernel_rfl
theorem srtF332:prog.funcs[srtRen.f 332]?=some (Go.Proofs.Body.n332 srtRen):=by
 have e:srtRen.f 332=202:=rfl
 rw [e,← srtB332];exact func202
theorem srtB215:f160=Go.Proofs.Body.n215 srtRen:=by kernel_rfl
theorem srtF215:prog.funcs[srtRen.f 215]?=some (Go.Proofs.Body.n215 srtRen):=by
 have e:srtRen.f 215=160:=rfl
 rw [e,← srtB215];exact func160
theorem srtB343:f204=Go.Proofs.Body.n343 srtRen:=by kernel_rfl
theorem srtF343:prog.funcs[srtRen.f 343]?=some (Go.Proofs.Body.n343 srtRen):=by
 have e:srtRen.f 343=204:=rfl
 rw [e,← srtB343];exact func204
theorem srtT0:srtRen.t 0=0:=rfl
theorem srtT3:srtRen.t 3=3:=rfl
theorem srtT4:srtRen.t 4=4:=rfl
theorem srtT5:srtRen.t 5=5:=rfl
theorem srtT9:srtRen.t 9=9:=rfl
theorem srtT28:srtRen.t 28=25:=rfl
theorem srtT46:srtRen.t 46=175:=rfl
theorem srtT51:srtRen.t 51=201:=rfl
theorem srtT53:srtRen.t 53=120:=rfl
theorem srtT131:srtRen.t 131=198:=rfl
theorem srtT182:srtRen.t 182=193:=rfl
theorem srtT183:srtRen.t 183=194:=rfl
theorem srtT218:srtRen.t 218=209:=rfl
theorem srtT222:srtRen.t 222=213:=rfl
theorem srtT228:srtRen.t 228=216:=rfl
theorem srtT229:srtRen.t 229=182:=rfl
theorem srtLays:Go.Proofs.Lays.n189 prog srtRen:=by
 refine { mixed:=by kernel_rfl,f125:=srtF125,f128:=srtF128,f129:=srtF129,f189:=srtF189,f215:=srtF215,f216:=srtF216,f257:=srtF257,f294:=srtF294,f295:=srtF295,f296:=srtF296,f297:=srtF297,f298:=srtF298,f299:=srtF299,f300:=srtF300,f301:=srtF301,f328:=srtF328,f329:=srtF329,f330:=srtF330,f331:=srtF331,f332:=srtF332,f343:=srtF343,t0:=?_,a0:=?_,z0:=?_,v0:=?_,t3:=?_,a3:=?_,z3:=?_,v3:=?_,t4:=?_,a4:=?_,z4:=?_,v4:=?_,t5:=?_,a5:=?_,z5:=?_,v5:=?_,t9:=?_,a9:=?_,z9:=?_,v9:=?_,t28:=?_,a28:=?_,z28:=?_,v28:=?_,t46:=?_,a46:=?_,z46:=?_,v46:=?_,t51:=?_,a51:=?_,z51:=?_,v51:=?_,t53:=?_,a53:=?_,z53:=?_,v53:=?_,t131:=?_,a131:=?_,z131:=?_,v131:=?_,t182:=?_,a182:=?_,z182:=?_,v182:=?_,t183:=?_,a183:=?_,z183:=?_,v183:=?_,t218:=?_,a218:=?_,z218:=?_,v218:=?_,t222:=?_,a222:=?_,z222:=?_,v222:=?_,t228:=?_,a228:=?_,z228:=?_,v228:=?_,t229:=?_,a229:=?_,z229:=?_,v229:=?_ }
 ·first|exact underlying0|(rw [srtT0];exact underlying0)|kernel_rfl
 ·intro w;exact isAgg0 w
 ·intro w;exact sizeOf0 w
 ·intro w;exact zeroValue0 w
 ·first|exact underlying3|(rw [srtT3];exact underlying3)|kernel_rfl
 ·intro w;exact isAgg3 w
 ·intro w;exact sizeOf3 w
 ·intro w;exact zeroValue3 w
 ·first|exact underlying4|(rw [srtT4];exact underlying4)|kernel_rfl
 ·intro w;exact isAgg4 w
 ·intro w;exact sizeOf4 w
 ·intro w;exact zeroValue4 w
 ·first|exact underlying5|(rw [srtT5];exact underlying5)|kernel_rfl
 ·intro w;exact isAgg5 w
 ·intro w;exact sizeOf5 w
 ·intro w;exact zeroValue5 w
 ·first|exact underlying9|(rw [srtT9];exact underlying9)|kernel_rfl
 ·intro w;exact isAgg9 w
 ·intro w;exact sizeOf9 w
 ·intro w;exact zeroValue9 w
 ·first|exact underlying25|(rw [srtT28];exact underlying25)|kernel_rfl
 ·intro w;exact isAgg25 w
 ·intro w;exact sizeOf25 w
 ·intro w;exact zeroValue25 w
 ·first|exact underlying175|(rw [srtT46];exact underlying175)|kernel_rfl
 ·intro w;exact isAgg175 w
 ·intro w;exact sizeOf175 w
 ·intro w;exact zeroValue175 w
 ·first|exact underlying201|(rw [srtT51];exact underlying201)|kernel_rfl
 ·intro w;exact isAgg201 w
 ·intro w;exact sizeOf201 w
 ·intro w;exact zeroValue201 w
 ·first|exact underlying120|(rw [srtT53];exact underlying120)|kernel_rfl
 ·intro w;exact isAgg120 w
 ·intro w;exact sizeOf120 w
 ·intro w;exact zeroValue120 w
 ·first|exact underlying198|(rw [srtT131];exact underlying198)|kernel_rfl
 ·intro w;exact isAgg198 w
 ·intro w;exact sizeOf198 w
 ·intro w;exact zeroValue198 w
 ·first|exact underlying193|(rw [srtT182];exact underlying193)|kernel_rfl
 ·intro w;exact isAgg193 w
 ·intro w;exact sizeOf193 w
 ·intro w;exact zeroValue193 w
 ·first|exact underlying194|(rw [srtT183];exact underlying194)|kernel_rfl
 ·intro w;exact isAgg194 w
 ·intro w;exact sizeOf194 w
 ·intro w;exact zeroValue194 w
 ·first|exact underlying209|(rw [srtT218];exact underlying209)|kernel_rfl
 ·intro w;exact isAgg209 w
 ·intro w;exact sizeOf209 w
 ·intro w;exact zeroValue209 w
 ·first|exact underlying213|(rw [srtT222];exact underlying213)|kernel_rfl
 ·intro w;exact isAgg213 w
 ·intro w;exact sizeOf213 w
 ·intro w;exact zeroValue213 w
 ·first|exact underlying216|(rw [srtT228];exact underlying216)|kernel_rfl
 ·intro w;exact isAgg216 w
 ·intro w;exact sizeOf216 w
 ·intro w;exact zeroValue216 w
 ·first|exact underlying182|(rw [srtT229];exact underlying182)|kernel_rfl
 ·intro w;exact isAgg182 w
 ·intro w;exact sizeOf182 w
 ·intro w;exact zeroValue182 w
end Go.AM
namespace Go.AM
open Go.Proofs.Try
attribute [-go_sem] put_ne put_same
attribute [local go_sem ↓] put_if
theorem srtLaw:∃ e,SrtF prog 86 e:=by
 have h:=srtF_of srtLays
 have e:srtRen.f 189=86:=rfl
 rw [e] at h
 exact ⟨_,h⟩
theorem run_sortR {base id ver:Nat} {h:Heap} {l:List Int} (hg:h[id]?=some (rowB l ver)) (hl:l.length≤1000) (h0:0<l.length) :
  callL prog raw base (.fn 86 [] []) [.slice (some ⟨id,ver,0⟩) l.length l.length] h=some (.tuple [],h.set id (rowB (srtL l) ver)):=by
 have:=callL_srt (P:=prog) (raw:=raw) (base:=base) (zs:=l) func86 (by kernel_rfl) (by kernel_rfl) srtLaw hg rfl (by omega) h0
 exact this
end Go.AM
namespace Go.AM
def agrB (L:Lac) (r:Rw3) (k:Nat):Bool:=(List.range L.T.toNat).all fun t=>!r.2.1.toNat.testBit t || ((L.C.getD k 0).toNat.testBit t == r.2.2.toNat.testBit t)
def fitR (L:Lac) (p k:Nat):Bool:=L.R.all fun r=>!decide (r.1.toNat % L.C.length=p) || agrB L r k
def xplB (L:Lac) (o:List Int):Bool:=L.R.all fun r=>agrB L r (o.getD (r.1.toNat % o.length) 0).toNat
def allR (L:Lac):List (List Int):=(ordsF (fun _ _=>true) L.C.length L.C.length []).filter (xplB L)
end Go.AM
namespace Go.AM
open Go.Proofs.Try
attribute [-go_sem] put_ne put_same
attribute [local go_sem ↓] put_if
end Go.AM
namespace Go.AM
open Go.Proofs.Try
attribute [-go_sem] put_ne put_same
attribute [local go_sem ↓] put_if
abbrev rcB (T:Int) (cv rv:AVal):ABlk:=⟨.cells [.int .i64 T,cv,rv] 49 false false,0⟩
abbrev rrB (r:Rw3):ABlk:=⟨.cells [.int .i64 r.1,.int .i64 r.2.1,.int .i64 r.2.2] 79 false false,0⟩
section
variable {h:Heap} {rv:AVal} {R:List Rw3} {i:Nat} {r:Rw3}
end
theorem setB_off {T x:Int}:(!decide (0≤x∧x≤2 ^ T.toNat-1))=!setB T x:=rfl
end Go.AM
namespace Go.AM
open Go.Proofs.Try
attribute [-go_sem] put_ne put_same
attribute [local go_sem ↓] put_if
end Go.AM
namespace Go.AM
open Go.Proofs.Try
attribute [-go_sem] put_ne put_same
attribute [local go_sem ↓] put_if
section
variable {b:Nat} {H H':Heap} {v:AVal} {ts:List (List Int)}
def AllX (b e:Nat) (H:Heap) (v:AVal) (ts:List (List Int)):Prop:=∃ vs:List AVal,Own encZ 25 b H v vs∧vs.length=ts.length∧∀ (i:Nat) x t,vs[i]?=some x→ts[i]?=some t→OwnE encI 3 e H x t
end
def allF (n d:Nat) (l:List Int) (k:Int):List (List Int):=if ((fun (_ _:Nat)=>true) l.length k.toNat && decide (k ∉ l))=true then ordsF (fun _ _=>true) n d (l++[k]) else []
theorem ordsF_all {n d:Nat} {l:List Int}:ordsF (fun _ _=>true) n (d+1) l=(upto n).flatMap (allF n d l):=rfl
end Go.AM
namespace Go.AM
def insAt (l:List Int) (i:Nat) (k:Int):List Int:=l.take i++k :: l.drop i
def ordsI:Nat→List (List Int)
 | 0=>[[]]
 | n+1=>(ordsI n).flatMap fun l=>(List.range (l.length+1)).map fun i=>insAt l i (n:Int)
end Go.AM
namespace Go.AM
open Go.Proofs.Try
attribute [-go_sem] put_ne put_same
attribute [local go_sem ↓] put_if
def insN (l:List Int) (k:Int) (m:Nat):List (List Int):=(List.range m).map fun i=>insAt l i k
def nxtN (ls:List (List Int)) (k:Int) (m:Nat):List (List Int):=(ls.take m).flatMap fun l=>insN l k (l.length+1)
def cmpI (a b:Int):Int:=if a<b then -1 else if a > b then 1 else 0
def cmpL:List Int→List Int→Int
 | x :: a,y :: b=>if x=y then cmpL a b else cmpI x y
 | _,_=>0
end Go.AM
namespace Go.AM
open Go.Proofs.Try
attribute [-go_sem] put_ne put_same
attribute [local go_sem ↓] put_if
def lftN (L:Lac) (ps:List Int) (os:List (List Int)):Nat→Nat
 | 0=>0
 | j+1=>if xplD L (os.getD j []) (os.getD j []).length=true then max (lftN L ps os j) (fnd (shwL L (os.getD j []) ps)).length else lftN L ps os j
theorem sub_upto1 {p:Nat} {ps:List Int} (h:ps.Sublist (upto p)):ps.Sublist (upto (p+1)):=by
 rw [upto_succ];exact h.trans (List.sublist_append_left _ _)
theorem sub_upto2 {p:Nat} {ps:List Int} (h:ps.Sublist (upto p)):(ps++[(p:Int)]).Sublist (upto (p+1)):=by
 rw [upto_succ];exact h.append_right _
end Go.AM
