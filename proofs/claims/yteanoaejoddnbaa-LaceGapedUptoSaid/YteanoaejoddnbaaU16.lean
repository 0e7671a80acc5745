/-
  Contracts: lists of integers whose equal neighbours are put together.
-/
import Derived.Test.YteanoaejoddnbaaU14
import Derived.Test.YteanoaejoddnbaaU15
import Derived.Test.YteanoaejoddnbaaU12
import Derived.Test.YteanoaejoddnbaaU13
set_option linter.unusedSimpArgs false
set_option linter.unusedVariables false
namespace Go.AM
open Go.Proofs.Try
theorem splice_ints:∀ (z:List Int) (m:List Int) (o:Nat),∃ m',splice (ints m) o (ints z)=ints m'∧m'.length=m.length
 | [],m,o=>⟨m,rfl,rfl⟩
 | x :: z,m,o=>by
  obtain ⟨m',h1,h2⟩:=splice_ints z (m.set o x) (o+1)
  refine ⟨m',?_,by rw [h2,List.length_set]⟩
  show splice ((ints m).set o (.int .i64 x)) (o+1) (ints z)=ints m'
  rw [ints_set];exact h1
theorem sl_from {id ver o n k:Nat} {lo:Int} (h0:0≤lo) (h1:lo≤n) (h2:n≤k):sliceA prog 25 (.slice (some ⟨id,ver,o⟩) n k) (some (.int .i64 lo)) none none=some (.slice (some ⟨id,ver,o+lo.toNat⟩) (n-lo.toNat) (k-lo.toNat)):=by
 have e1:lo≤(n:Int):=h1
 simp [sliceA,Fc.ar25,Fc.el25,optB,boundA,ARef.add,h0,e1]
theorem sl_to {id ver o n k:Nat} {hi:Int} (h0:0≤hi) (h1:hi≤k):sliceA prog 25 (.slice (some ⟨id,ver,o⟩) n k) none (some (.int .i64 hi)) none=some (.slice (some ⟨id,ver,o⟩) hi.toNat k):=by
 have e1:hi≤(k:Int):=h1
 simp [sliceA,Fc.ar25,Fc.el25,optB,boundA,ARef.add,h0,e1]
def nodup (l:List Int):Prop:=∀ i,i<l.length→0<i→l.getD i 0 ≠ l.getD (i-1) 0
theorem run_compact0 {base:Nat} {h:Heap} {v:AVal} {l:List Int} (hI:Ints h v l) (h2:l.length<2):Ret prog raw base (.fn 87 [] []) [v] h (fun w H=>w=v∧H=h):=by
 have t1:((l.length:Int)<2)=True:=eq_true (by omega)
 refine ret_raw func87 rfl (by kernel_rfl) ?_
 have hsp:=@Nat.succ_ne_zero;repeat' (first|simp (disch:=first|exact dqb|fail) only [go_sem,hsp,t1,lenI hI]|refine WP_drw ?_|refine cnd_intro (fun hsp=>?_) fun hsp=>?_)
def riseB (l:List Int):Bool:=decide (∀ i,i<l.length→0<i→l.getD (i-1) 0<l.getD i 0)
end Go.AM
namespace Go.AM
theorem splice_mid:∀ (vs pre c d:List AVal),c.length=vs.length→splice (pre++c++d) pre.length vs=pre++vs++d
 | [],pre,c,d,h=>by rw [List.eq_nil_of_length_eq_zero h];rfl
 | v :: vs,pre,[],d,h=>by simp at h
 | v :: vs,pre,x :: c,d,h=>by
  have:=splice_mid vs (pre++[v]) c d (by simpa using h)
  rw [splice]
  rw [show (pre++x :: c++d).set pre.length v=pre++[v]++c++d by simp]
  rw [show pre.length+1=(pre++[v]).length by simp,this]
  simp
end Go.AM
namespace Go.AM
open Go.Proofs.Try
attribute [-go_sem] put_ne put_same
attribute [local go_sem ↓] put_if
section
variable {base id ver:Nat} {h:Heap} {m:List Int}
abbrev iB (m:List Int) (ver:Nat):ABlk:=srB m 3 ver
theorem stI {o:Nat} {z:List Int} (hg:h[id]?=some (iB m ver)) (hb:base≤id) (ho:o+z.length≤m.length):storeN base h ⟨id,ver,o⟩ (ints z)=some (h.set id (iB (m.take o++z++m.drop (o+z.length)) ver)):=by
 have e:ints m=ints (m.take o)++ints ((m.drop o).take z.length)++ints (m.drop (o+z.length)):=by
  rw [ints_app,ints_app]
  congr 1
  rw [List.append_assoc,← List.drop_drop,List.take_append_drop,List.take_append_drop]
 have h1:=splice_mid (ints z) (ints (m.take o)) (ints ((m.drop o).take z.length)) (ints (m.drop (o+z.length))) (by simp [ints];omega)
 rw [← e,ints_app,ints_app,show (ints (m.take o)).length=o by simp [ints];omega] at h1
 unfold storeN
 simp only [hg]
 rw [if_pos ⟨trivial,by simp only [ints_length];omega,ints_scalar _,.inl hb⟩,h1]
theorem ldI {o n a b:Nat} (hg:h[id]?=some (iB m ver)) (ho:o+n≤m.length):firstN h 1 n (.slice (some ⟨id,ver,o⟩) a b)=some (ints ((m.drop o).take n)):=by
 simp only [firstN,loadN,cellsAt,hg,Nat.mul_one,if_true]
 rw [if_pos (by simp only [ints_length];omega)]
 simp [ints,List.map_take,List.map_drop]
theorem sl_two {o n k:Nat} {lo hi:Int} (h0:0≤lo) (h1:lo≤hi) (h2:hi≤k):sliceA prog 25 (.slice (some ⟨id,ver,o⟩) n k) (some (.int .i64 lo)) (some (.int .i64 hi)) none=some (.slice (some ⟨id,ver,o+lo.toNat⟩) (hi.toNat-lo.toNat) (k-lo.toNat)):=by
 simp only [sliceA,Fc.ar25,Fc.el25,optB,boundI (show 0≤hi by omega) h2,boundI h0 (show lo≤(hi.toNat:Int) by omega)]
 simp [ARef.add]
theorem sl_three {o n k:Nat} {lo hi mx:Int} (h0:0≤lo) (h1:lo≤hi) (h2:hi≤mx) (h3:mx≤k):∃ v,sliceA prog 25 (.slice (some ⟨id,ver,o⟩) n k) (some (.int .i64 lo)) (some (.int .i64 hi)) (some (.int .i64 mx))=some v:=by
 simp only [sliceA,Fc.ar25,Fc.el25,optB,boundI (show 0≤mx by omega) h3,boundI (show 0≤hi by omega) (show hi≤(mx.toNat:Int) by omega),boundI h0 (show lo≤(hi.toNat:Int) by omega)]
 exact ⟨_,rfl⟩
theorem er_take {l:List Int} {i:Nat}:l.eraseIdx i=l.take i++l.drop (i+1):=List.eraseIdx_eq_take_drop_succ l i
theorem run_delete {l:List Int} {i:Nat} (hg:h[id]?=some (iB l ver)) (hb:base≤id) (hi:i<l.length) (hl:l.length≤1000) :
  Ret prog raw base (.fn 136 [] []) [.slice (some ⟨id,ver,0⟩) l.length l.length,.int .i64 (i:Int),.int .i64 ((i:Int)+1)] h (fun w H=>w=.slice (some ⟨id,ver,0⟩) (l.length-1) l.length∧H=h.set id (iB (l.eraseIdx i++[0]) ver)):=by
 obtain ⟨n,en⟩:∃ n,l.length=n:=⟨_,rfl⟩
 rw [en] at hi hl ⊢
 have hid:=lt_of_get hg
 obtain ⟨v3,e3⟩:=sl_three (id:=id) (ver:=ver) (o:=0) (n:=n) (k:=n) (lo:=(i:Int)) (hi:=(i:Int)+1) (mx:=(n:Int)) (by omega) (by omega) (by omega) (by omega)
 have t1:((i:Int)=(i:Int)+1)=False:=eq_false (by omega)
 have s1:=sl_to (id:=id) (ver:=ver) (o:=0) (n:=n) (k:=n) (hi:=(i:Int)) (by omega) (by omega)
 have s2:=sl_from (id:=id) (ver:=ver) (o:=0) (n:=n) (k:=n) (lo:=(i:Int)+1) (by omega) (by omega) (by omega)
 rw [Int.toNat_natCast] at s1
 rw [show ((i:Int)+1).toNat=i+1 by omega,Nat.zero_add] at s2
 obtain ⟨m,em⟩:∃ m,m=l.eraseIdx i++l.drop (n-1):=⟨_,rfl⟩
 have hel:(l.eraseIdx i).length=n-1:=by rw [List.length_eraseIdx,if_pos (by omega)];omega
 have hml:m.length=n:=by rw [em,List.length_append,hel,List.length_drop];omega
 have hap:appendA prog base h 25 (.slice (some ⟨id,ver,0⟩) i n) (.slice (some ⟨id,ver,i+1⟩) (n-(i+1)) (n-(i+1)))=some (.slice (some ⟨id,ver,0⟩) (n-1) n,h.set id (iB m ver)):=by
  simp only [appendA,Fc.el25,lenA,ldI (o:=i+1) (n:=n-(i+1)) hg (by omega),ints_scalar,if_true]
  rw [if_pos (by omega)]
  have:(ARef.mk id ver 0).add (i * 1)=⟨id,ver,i⟩:=by simp [ARef.add]
  rw [this,List.take_of_length_le (by simp;omega),stI hg hb (by simp;omega)]
  simp only [List.length_drop,en]
  rw [show i+(n-(i+1))=n-1 by omega,← er_take,em]
 obtain ⟨G,eG⟩:∃ G,G=h.set id (iB m ver):=⟨_,rfl⟩
 rw [← eG] at hap
 have gG:G[id]?=some (iB m ver):=by rw [eG,List.getElem?_set_self hid]
 have s3:=sl_two (id:=id) (ver:=ver) (o:=0) (n:=n-1) (k:=n) (lo:=((n-1:Nat):Int)) (hi:=(n:Int)) (by omega) (by omega) (by omega)
 rw [Int.toNat_natCast,Int.toNat_natCast,Nat.zero_add,show n-(n-1)=1 by omega] at s3
 have hcl:clearA prog base G 25 (.slice (some ⟨id,ver,n-1⟩) 1 1)=some (.tuple [],G.set id (iB (l.eraseIdx i++[0]) ver)):=by
  have hs:=stI (z:=[0]) (o:=n-1) gG hb (by simp;omega)
  have hr:repCells [AVal.int .i64 0] (0+1)=ints [0]:=rfl
  have e:m.take (n-1)++[0]++m.drop (n-1+[(0:Int)].length)=l.eraseIdx i++[0]:=by
   rw [em,List.take_left' hel,List.drop_of_length_le (by simp [hel];omega),List.append_nil]
  rw [e] at hs
  simp only [clearA,Fc.el25,hr,hs]
 refine ret_raw func136 rfl (by kernel_rfl) ?_
 have hsp:=@Nat.succ_ne_zero;repeat' (first|simp (disch:=first|exact dqb|fail) only [go_sem,↓reduceIte,hsp,e3,t1,s1,s2,hap,s3,hcl]|refine WP_drw ?_|refine cnd_intro (fun hsp=>?_) fun hsp=>?_)
 rw [eG,List.set_set]
theorem run_insert {id2:Nat} {r:List Int} {t:Nat} {x z:Int} (hg:h[id]?=some (iB (r++[z]) ver)) (hg2:h[id2]?=some (rowB [x] 0)) (hne:id2 ≠ id) (hb:base≤id) (ht:t≤r.length) (hl:r.length≤1000) :
  Ret prog raw base (.fn 140 [] []) [.slice (some ⟨id,ver,0⟩) r.length (r.length+1),.int .i64 (t:Int),.slice (some ⟨id2,0,0⟩) 1 1] h (fun w H=>w=.slice (some ⟨id,ver,0⟩) (r.length+1) (r.length+1)∧H=h.set id (iB (r.insertIdx t x) ver)):=by
 obtain ⟨k,ek⟩:∃ k,r.length=k:=⟨_,rfl⟩
 rw [ek] at ht hl ⊢
 have hq:(insQ f140 [.slice (some ⟨id,ver,0⟩) k (k+1),.int .i64 (t:Int),.slice (some ⟨id2,0,0⟩) 1 1] || srtQ f140 [.slice (some ⟨id,ver,0⟩) k (k+1),.int .i64 (t:Int),.slice (some ⟨id2,0,0⟩) 1 1])=false:=by
  rw [Bool.or_eq_false_iff]
  exact ⟨by unfold insQ;simp,by unfold srtQ;simp⟩
 have hid:=lt_of_get hg
 have s1:=sl_from (id:=id) (ver:=ver) (o:=0) (n:=k) (k:=k+1) (lo:=(t:Int)) (by omega) (by omega) (by omega)
 rw [Int.toNat_natCast,Nat.zero_add] at s1
 have hI2:Ints h (.slice (some ⟨id2,0,0⟩) 1 1) [x]→True:=fun _=>trivial
 have n1:∀ {H:Heap},lenOpA prog H 25 (.slice (some ⟨id2,0,0⟩) 1 1)=some (.int .i64 1):=fun {H}=>by simp [lenOpA,Fc.el25,lenA]
 have n2:∀ {H:Heap} {q:Nat},lenOpA prog H 25 (.slice (some ⟨id,ver,0⟩) k q)=some (.int .i64 (k:Int)):=fun {H q}=>by simp [lenOpA,Fc.el25,lenA]
 have t0:((1:Int)=0)=False:=eq_false (by omega)
 have l2:∀ {H:Heap},H[id2]?=some (rowB [x] 0)→firstN H 1 1 (.slice (some ⟨id2,0,0⟩) 1 1)=some (ints [x]):=fun {H} hg=>by
  have:=ldI (h:=H) (id:=id2) (ver:=0) (m:=[x]) (o:=0) (n:=1) (a:=1) (b:=1) hg (by simp)
  simpa using this
 by_cases c:t=k
 ·have t1:((t:Int)=(k:Int))=True:=eq_true (by omega)
  have hap:appendA prog base h 25 (.slice (some ⟨id,ver,0⟩) k (k+1)) (.slice (some ⟨id2,0,0⟩) 1 1)=some (.slice (some ⟨id,ver,0⟩) (k+1) (k+1),h.set id (iB (r.insertIdx t x) ver)):=by
   simp only [appendA,Fc.el25,lenA,l2 hg2,ints_scalar,if_true]
   rw [if_pos (by omega)]
   have:(ARef.mk id ver 0).add (k * 1)=⟨id,ver,k⟩:=by simp [ARef.add]
   rw [this,stI hg hb (by simp;omega)]
   simp only
   rw [List.take_left' ek,List.drop_of_length_le (by simp;omega),List.append_nil,c,← ek,List.insertIdx_length_self]
  refine ret_rawQ func140 rfl (by kernel_rfl) ?_ hq
  have hsp:=@Nat.succ_ne_zero;repeat' (first|simp (disch:=first|exact dqb|fail) only [go_sem,↓reduceIte,hsp,s1,n1,n2,t0,t1,hap]|refine WP_drw ?_|refine cnd_intro (fun hsp=>?_) fun hsp=>?_)
 ·have t1:((t:Int)=(k:Int))=False:=eq_false (by omega)
  have hcp:=fun m=>cap_slice (P:=prog) Fc.el25 (r:=some ⟨id,ver,0⟩) (m:=m) (k:=k+1)
  have hkk:((k:Int)+1)=((k+1:Nat):Int):=by omega
  have htt:((t:Int)+1)=((t+1:Nat):Int):=by omega
  have hroom:binA prog .gtr 3 (.int .i64 ((k+1:Nat):Int)) (.atl (k+1))=some (.bool false):=bin_room (by omega)
  have s2:=sl_to (id:=id) (ver:=ver) (o:=0) (n:=k) (k:=k+1) (hi:=((k+1:Nat):Int)) (by omega) (by omega)
  have s3:=sl_from (id:=id) (ver:=ver) (o:=0) (n:=k+1) (k:=k+1) (lo:=((t+1:Nat):Int)) (by omega) (by omega) (by omega)
  have s4:=sl_from (id:=id) (ver:=ver) (o:=0) (n:=k+1) (k:=k+1) (lo:=(t:Int)) (by omega) (by omega) (by omega)
  rw [Int.toNat_natCast] at s2
  rw [Int.toNat_natCast,Nat.zero_add] at s3 s4
  obtain ⟨inf,einf⟩:=Option.isSome_iff_exists.1 (show (prog.info? 3).isSome=true by kernel_rfl)
  have hov:callL prog raw base (.fn 166 [] []) [.slice (some ⟨id2,0,0⟩) 1 1,.slice (some ⟨id,ver,t+1⟩) (k+1-(t+1)) (k+1-(t+1))] h=some (.bool false,h) :=
   callL_ovl (fn:=f166) (by kernel_rfl) (by kernel_rfl) ⟨by kernel_rfl,by kernel_rfl,25,4,3,inf,by kernel_rfl,by kernel_rfl,einf⟩ hne (by omega) (by omega) (offOk_of hg2 (by simp [ints])) (offOk_of hg (by simp [ints];omega))
  obtain ⟨m,em⟩:∃ m,m=r.take (t+1)++r.drop t:=⟨_,rfl⟩
  have hml:m.length=k+1:=by rw [em];simp;omega
  have hc1:copyA prog base h 25 (.slice (some ⟨id,ver,t+1⟩) (k+1-(t+1)) (k+1-(t+1))) (.slice (some ⟨id,ver,t⟩) (k+1-t) (k+1-t))=some (.int .i64 ((k-t:Nat):Int),h.set id (iB m ver)):=by
   have hmin:min (k+1-t) (k+1-(t+1))=k-t:=by omega
   have hd:((r++[z]).drop t).take (k-t)=r.drop t:=by
    rw [List.drop_append_of_le_length (by omega),List.take_left' (by simp;omega)]
   have e:(r++[z]).take (t+1)++r.drop t++(r++[z]).drop (t+1+(r.drop t).length)=m:=by
    rw [List.take_append_of_le_length (by omega),List.drop_of_length_le (i:=t+1+(r.drop t).length) (by simp;omega),List.append_nil,em]
   simp only [copyA,Fc.el25,lenA,hmin,ldI (o:=t) (n:=k-t) hg (by simp;omega),hd,stI (o:=t+1) (z:=r.drop t) hg hb (by simp;omega),e]
  obtain ⟨G,eG⟩:∃ G,G=h.set id (iB m ver):=⟨_,rfl⟩
  rw [← eG] at hc1
  have gG:G[id]?=some (iB m ver):=by rw [eG,List.getElem?_set_self hid]
  have g2:G[id2]?=some (rowB [x] 0):=by rw [eG,List.getElem?_set_ne (by omega)];exact hg2
  have hc2:copyA prog base G 25 (.slice (some ⟨id,ver,t⟩) (k+1-t) (k+1-t)) (.slice (some ⟨id2,0,0⟩) 1 1)=some (.int .i64 ((1:Nat):Int),G.set id (iB (r.insertIdx t x) ver)):=by
   have hmin:min 1 (k+1-t)=1:=by omega
   have e:m.take t++[x]++m.drop (t+[x].length)=r.insertIdx t x:=by
    rw [ins_eq (by omega),em,List.take_append_of_le_length (by simp;omega),List.take_take,Nat.min_eq_left (by omega),show t+[x].length=(r.take (t+1)).length by simp;omega,List.drop_left]
    simp
   simp only [copyA,Fc.el25,lenA,hmin,l2 g2,stI (o:=t) (z:=[x]) gG hb (by simp;omega),e]
  refine ret_rawQ func140 rfl (by kernel_rfl) ?_ hq
  have hsp:=@Nat.succ_ne_zero;repeat' (first|simp (disch:=first|exact dqb|fail) only [go_sem,↓reduceIte,hsp,s1,n1,n2,t0,t1,hcp,hkk,htt,hroom,s2,s3,s4,hov,hc1,hc2]|refine WP_drw ?_|refine cnd_intro (fun hsp=>?_) fun hsp=>?_)
  rw [eG,List.set_set]
end
end Go.AM
namespace Go.AM
open Go.Proofs.Try
attribute [-go_sem] put_ne put_same
attribute [local go_sem ↓] put_if
theorem OwnE.pos {α:Type} {E:Enc α} {e b:Nat} {H:Heap} {v:AVal} {l:List α} (x:OwnE E e b H v l) (h:0<l.length):∃ id ver,v=.slice (some ⟨id,ver,0⟩) l.length l.length∧H[id]?=some (rowE E e l ver)∧b≤id:=by
 rcases x with (⟨_,rfl⟩|⟨id,ver,h1,h2,h3,_⟩)|⟨_,rfl⟩
 ·simp at h
 ·exact ⟨id,ver,h1,h2,h3⟩
 ·simp at h
theorem rowE_iB {l:List Int} {ver:Nat}:rowE encI 3 l ver=iB l ver:=by rw [rowE,flat_encI]
abbrev mvB (f t:Int):ABlk:=⟨.cells [.int .i64 f,.int .i64 t] 36 false false,0⟩
theorem stL6 {base:Nat} {l:List Oper} {s:St} {Q:AExit→St→Prop}:WP prog raw base (.region 2 l.toArray true) s Q=WPS prog raw base (.region 2 l.toArray true) s Q:=WP_stop
attribute [local go_sem ↓ 3000] stL6
set_option maxHeartbeats 2000000 in
theorem run_made {base:Nat} {h:Heap} {v:AVal} {o:List Int} {f t:Nat} (hb:base≤h.length) (hI:Ints h v o) (hl:o.length≤1000) (hf:f<o.length) (ht:t<o.length) :
  Ret prog raw base (.fn 94 [] []) [v,.agg [.int .i64 (f:Int),.int .i64 (t:Int)]] h (fun w H=>Ext h H∧Own encI 3 h.length H w (mvL o f t)):=by
 have hv1:=hI.one
 obtain ⟨G,eG⟩:∃ G,G=h++[mvB f t]:=⟨_,rfl⟩
 have xG:Ext h G:=by rw [eG];exact .app .refl
 have gm:G[h.length]?=some (mvB f t):=by rw [eG];exact get_eq rfl
 have hGl:G.length=h.length+1:=by rw [eG];simp
 have hIG:=hI.ext xG
 have lf:=loadI hIG hf
 have af:=adrI (i:=(f:Int)) (by omega) hIG (by omega)
 rw [Int.toNat_natCast] at af
 obtain ⟨v1,H1,e1,x1,o1⟩:=run_cloneE (base:=base) hIG (small_ints hI (by omega))
 obtain ⟨id,ver,rfl,g1,hid⟩:=o1.pos (by omega)
 rw [rowE_iB] at g1
 have hl1:=x1.len
 have hidl:=lt_of_get g1
 obtain ⟨w2,H2,e2,rfl,eH2⟩:=run_delete (base:=base) (i:=f) g1 (by omega) hf hl
 have hH2l:H2.length=H1.length:=by rw [eH2,List.length_set]
 have g2:H2[id]?=some (iB (o.eraseIdx f++[0]) ver):=by rw [eH2,List.getElem?_set_self hidl]
 obtain ⟨k,ek⟩:∃ k,k=o.getD f 0:=⟨_,rfl⟩
 rw [← ek] at lf
 obtain ⟨H3,eH3⟩:∃ H3,H3=H2++[rowB [k] 0]:=⟨_,rfl⟩
 have x3:Ext H2 H3:=by rw [eH3];exact .app .refl
 have g3:H3[H2.length]?=some (rowB [k] 0):=by rw [eH3];exact get_eq rfl
 have hel:(o.eraseIdx f).length=o.length-1:=by rw [List.length_eraseIdx,if_pos hf]
 obtain ⟨w4,H4,e4,rfl,eH4⟩:=run_insert (base:=base) (t:=t) (x:=k) (x3.get g2) g3 (by omega) (by omega) (by omega) (by omega)
 rw [hel,show o.length-1+1=o.length by omega] at e4
 have hsm:0≤k ∨ k<0:=by omega
 have gm1:=x1.get gm
 have gm2:H2[h.length]?=some (mvB f t):=by rw [eH2,List.getElem?_set_ne (by omega)];exact gm1
 have gm3:=x3.get gm2
 have gm4:H4[h.length]?=some (mvB f t):=by rw [eH4,List.getElem?_set_ne (by omega)];exact gm3
 unfold mvB at eG gm gm1 gm2 gm3 gm4
 refine ret_raw func94 rfl (by kernel_rfl) ?_
 have hsp:=@Nat.succ_ne_zero;repeat' (first|simp (disch:=first|exact dqb|fail) only [go_sem,↓reduceIte,hsp,← eG,gm,af,lf]|refine WP_drw ?_|refine cnd_intro (fun hsp=>?_) fun hsp=>?_)
 refine WPS_go ?_
 refine WP_wild [⟨3,3,13,⟨h.length,0,0⟩,.int .i64 (f:Int),7⟩,⟨5,3,15,⟨h.length,0,0⟩,.int .i64 (f:Int),7⟩,⟨9,3,19,⟨h.length,0,1⟩,.int .i64 (t:Int),12⟩] (by kernel_rfl) (by kernel_rfl) (by kernel_rfl) ⟨refsLow_int,refsLow_int,refsLow_int,trivial⟩ fun K hK=>?_
 iterate 14
  rw [TRS_cons]
  refine ⟨by first|(simp (disch:=first|exact dqb|fail) only [go_sem,↓reduceIte,gm,gm1,gm2,gm3,gm4,e1,e2,← eH3,e4,ldsQ_cons,ldsQ_nil,grdQ_cons,grdQ_nil,if_true,Nat.reduceLeDiff];done)|exact trivial,?_⟩
  simp (disch:=first|exact dqb|fail) only [go_sem,↓reduceIte,gm,gm1,gm2,gm3,gm4,e1,e2,← eH3,e4]
 rw [TRS_nil]
 refine ⟨by first|(simp (disch:=first|exact dqb|fail) only [go_sem,↓reduceIte,gm,gm1,gm2,gm3,gm4,e1,e2,← eH3,e4,ldsQ_cons,ldsQ_nil,grdQ_cons,grdQ_nil,if_true,Nat.reduceLeDiff];done)|exact trivial,?_⟩
 subst hK
 have hsp:=@Nat.succ_ne_zero;repeat' (first|simp (disch:=first|exact dqb|fail) only [go_sem,↓reduceIte,hsp]|refine WP_drw ?_|refine cnd_intro (fun hsp=>?_) fun hsp=>?_)
 have xh:Ext h H4:=by
  rw [eH4]
  refine Ext.set (Ext.trans ?_ x3) (by omega)
  rw [eH2]
  exact (xG.trans x1).set (by omega)
 refine ⟨xh,.inr ⟨id,ver,?_,?_,by omega,by rw [mvL_len hf ht];omega⟩⟩
 ·rw [mvL_len hf ht]
 ·rw [eH4,List.getElem?_set_self (by have:=x3.len;omega),rowE_iB,mvL,← ek]
end Go.AM
namespace Go.AM
open Go.Proofs.Try
attribute [-go_sem] put_ne put_same
attribute [local go_sem ↓] put_if
def knwM (o:List Int) (ok:Nat→Bool):Nat→List Int
 | 0=>o
 | i+1=>if ok i=true then knwM o ok i else (knwM o ok i).set i (-1)
theorem knwM_len {o:List Int} {ok:Nat→Bool}:∀ i,(knwM o ok i).length=o.length
 | 0=>rfl
 | i+1=>by rw [knwM];split<;>simp [knwM_len i]
theorem knwM_at {o:List Int} {ok:Nat→Bool} {p:Nat}:∀ {i},i≤o.length→(knwM o ok i).getD p 0=if p<i∧ok p=false then -1 else o.getD p 0
 | 0,_=>by rw [knwM,if_neg (by omega)]
 | i+1,hi=>by
  have ih:=knwM_at (o:=o) (ok:=ok) (p:=p) (i:=i) (by omega)
  rw [knwM]
  cases c:ok i with
  | true =>
   rw [if_pos rfl,ih]
   by_cases e:p=i
   ·rw [if_neg (by omega),if_neg (by rw [e,c];simp)]
   ·by_cases q:p<i∧ok p=false
    ·rw [if_pos q,if_pos ⟨by omega,q.2⟩]
    ·rw [if_neg q,if_neg (fun z=>q ⟨by omega,z.2⟩)]
  | false =>
   rw [if_neg (by simp),getD_setI (by rw [knwM_len];omega),ih]
   by_cases e:i=p
   ·rw [if_pos e,if_pos ⟨by omega,by rw [← e];exact c⟩]
   ·rw [if_neg e]
    by_cases q:p<i∧ok p=false
    ·rw [if_pos q,if_pos ⟨by omega,q.2⟩]
    ·rw [if_neg q,if_neg (fun z=>q ⟨by omega,z.2⟩)]
def allK (os:List (List Int)) (k:Int) (p:Nat):Bool:=os.all fun x=>decide (x.getD p 0=k)
theorem getD_ext {l m:List Int} (h:l.length=m.length) (q:∀ i,i<l.length→l.getD i 0=m.getD i 0):l=m:=by
 refine List.ext_getElem h fun i h1 h2=>?_
 have:=q i h1
 rwa [getD_at h1,getD_at h2] at this
theorem lst_getD {f:Nat→Int} {n i:Nat} (h:i<n):(lst f n).getD i 0=f i:=by
 exact lst_get h
theorem knwM_all {n:Nat} {os:List (List Int)} (h:(os.headD []).length=n):knwM (os.headD []) (fun p=>allK os ((os.headD []).getD p 0) p) n=knwL n os:=by
 refine getD_ext (by rw [knwM_len,h,knwL,lst_len]) fun i hi=>?_
 rw [knwM_len,h] at hi
 rw [knwM_at (by omega),knwL,lst_getD hi]
 show _=if allK os ((os.headD []).getD i 0) i=true then _ else _
 cases c:allK os ((os.headD []).getD i 0) i with
 | true=>rw [if_neg (by simp),if_pos rfl]
 | false=>rw [if_pos ⟨hi,rfl⟩,if_neg (by simp)]
theorem run_kn1 {base a b:Nat} {h:Heap} {y:AVal} {t:List Int} {p:Nat} {k:Int} (ga:h[a]?=some (nB (p:Int))) (gb:h[b]?=some (nB k)) (hO:Ints h y t) (hp:p<t.length) :
  callL prog raw base (.fn 107 [] [.ptr (some ⟨a,0,0⟩),.ptr (some ⟨b,0,0⟩)]) [y] h=some (.bool (decide (t.getD p 0=k)),h):=by
 have la:=lt_of_get ga
 have lb:=lt_of_get gb
 have oy:=hO.one
 have hb:=hO.1.1
 have ad:=adrI (i:=(p:Int)) (by omega) hO (by omega)
 rw [Int.toNat_natCast] at ad
 have ld:=loadI hO hp
 unfold nB at ga gb
 refine callL_run func107 rfl rfl ?_
 have hsp:=@Nat.succ_ne_zero;repeat' (first|simp (disch:=first|exact dqb|fail) only [go_sem,↓reduceIte,hsp,ga,gb,ad,ld]|refine WP_drw ?_|refine cnd_intro (fun hsp=>?_) fun hsp=>?_)
 exact fB rfl
set_option maxRecDepth 100000 in
set_option maxHeartbeats 4000000 in
theorem run_Known {base:Nat} {h:Heap} {v:AVal} {L:Lac} (hb:base≤h.length) (hL:LacAt h v L) :
  Ret prog raw base (.fn 41 [] []) [v] h (fun w H=>Ext h H∧∃ x,w=.tuple [x,.int .i64 (kwnE L).2]∧OwnE encI 3 h.length H x (kwnE L).1):=by
 have hL0:=hL
 obtain ⟨cv,rv,rfl,hC,hR⟩:=hL
 have o1:=hC.one
 have o2:=hR.one
 obtain ⟨G0,eG0⟩:∃ G0,G0=h++[lacB L.T cv rv]:=⟨_,rfl⟩
 have x0:Ext h G0:=by rw [eG0];exact .app .refl
 have g0:G0[h.length]?=some (lacB L.T cv rv):=by rw [eG0];exact get_eq rfl
 have l0:G0.length=h.length+1:=by rw [eG0];simp
 obtain ⟨w1,H1,e1,x1,a,x,rfl,oa,hA,hD⟩:=run_found (base:=base) (h:=G0) (by omega) (hL0.ext x0)
 have ox:=hA.one
 have l1:=x1.len
 unfold lacB at eG0 g0
 by_cases c:(fndE L).2=0
 ·obtain ⟨c1,c2,c3⟩:=fndE_ok c
  obtain ⟨n,en⟩:∃ n,L.C.length=n:=⟨_,rfl⟩
  have hn7:1≤n∧n≤7:=by rw [← en];exact (chkL_iff.1 c1).n
  have hord:∀ o ∈ fnd L,Ord n o:=fun o ho=>by rw [← en];exact fnd_ord ho
  have r:kwnE L=(knwL n (fnd L),0):=by unfold kwnE;rw [if_pos c,en]
  rw [r]
  rw [c3] at hA e1
  have hAI:AllI G0.length H1 x (fnd L):=hA.all
  obtain ⟨vs,q1,q2',q3⟩:=hA
  have q2:vs.length=(fnd L).length:=q2'
  have hpos:0<(fnd L).length:=by cases q:fnd L with|nil=>exact absurd q c2|cons a b=>simp
  have hv0:vs[0]?=some vs[0]:=List.getElem?_eq_getElem (by omega)
  have ho:=q3 0 _ _ hv0 (head_at c2)
  obtain ⟨y,ey⟩:∃ y,y=vs[0]'(by rw [q2];exact hpos):=⟨_,rfl⟩
  rw [← ey] at hv0 ho
  have hfew:=fnd_few (L:=L) (by omega)
  have hRw:=q1.rows (show vs.length<2 ^ 60 by omega)
  have ad:=hRw.addr (P:=prog) (i:=((0:Nat):Int)) Fc.el54 Fc.ar54 (by omega) (by omega)
  have ld:loadP prog H1 25 (elAdr x 1 0 0)=some y:=hRw.cell (P:=prog) Fc.ty25 hv0 (o:=0) (a:=y) (by simp only [encZ,norm_one ho.one];rfl)
  rw [Int.toNat_natCast,Int.natCast_zero] at ad
  have oy:=ho.one
  have hz:encZ.z=1:=rfl
  rw [hz] at ad
  obtain ⟨o,eo⟩:∃ o,o=(fnd L).headD []:=⟨_,rfl⟩
  rw [← eo] at ho
  have hom:o ∈ fnd L:=by rw [eo];exact List.mem_of_getElem? (head_at c2)
  have hoo:=hord o hom
  have hol:=hoo.1
  have hIo:=ownE_ints ho (ord_small hoo (by omega))
  obtain ⟨v2,H2,e2,x2,o2⟩:=run_cloneE (base:=base) hIo (ord_small hoo (by omega))
  obtain ⟨id,ver,rfl,gid,hid⟩:=o2.pos (by omega)
  rw [rowE_iB] at gid
  have lid:=lt_of_get gid
  have l2:=x2.len
  obtain ⟨ok,eok⟩:∃ ok:Nat→Bool,ok=fun p=>allK (fnd L) (o.getD p 0) p:=⟨_,rfl⟩
  obtain ⟨D,eD⟩:∃ D:Nat→Heap,D=fun i=>H2.set id (iB (knwM o ok i) ver):=⟨_,rfl⟩
  have lD:∀ i,(D i).length=H2.length:=fun i=>by rw [eD];exact List.length_set
  have gD:∀ i,(D i)[id]?=some (iB (knwM o ok i) ver):=fun i=>by rw [eD];exact List.getElem?_set_self lid
  have xD:∀ i,Ext H1 (D i):=fun i=>by rw [eD];exact x2.set (by omega)
  have hD0:D 0=H2:=by rw [eD];exact set_id gid
  have hDs:∀ i j,(D i).set id (iB (knwM o ok j) ver)=D j:=fun i j=>by rw [eD];exact List.set_set ..
  have ln2:∀ {H:Heap},lenOpA prog H 25 (.slice (some ⟨id,ver,0⟩) o.length o.length)=some (.int .i64 (o.length:Int)):=fun {H}=>by simp [lenOpA,Fc.el25,lenA]
  refine ret_raw func41 rfl (by kernel_rfl) ?_
  have hsp:=@Nat.succ_ne_zero;repeat' (first|simp (disch:=first|exact dqb|fail) only [go_sem,↓reduceIte,hsp,← eG0,g0,e1,eq_self,ad,ld,e2,ln2]|refine WP_drw ?_|refine cnd_intro (fun hsp=>?_) fun hsp=>?_)
  refine WP_count [(8,9),(25,37)] 0 o.length (Nat.zero_le _) (fun _ i fr K=>fr 25=.int .i64 (i:Int)∧Ext (D i) K) ?_ ?_ ?_
  ·exact ⟨by (simp (disch:=first|exact dqb|fail) only [go_sem,↓reduceIte,Int.natCast_zero];first|done|rfl),by rw [hD0];exact .refl⟩
  ·rintro i fr K hi0 hi hA2 ⟨r25,xK⟩
   have p2:=hA2 2 rfl
   have p3:=hA2 3 rfl
   have p5:=hA2 5 rfl
   have p7:=hA2 7 rfl
   have p23:=hA2 23 rfl
   have p24:=hA2 24 rfl
   try simp (disch:=first|exact dqb|fail) only [go_sem,↓reduceIte] at p2 p3 p5 p7 p23 p24
   have hlt:((i:Int)<(o.length:Int))=True:=eq_true (by omega)
   have lK:=xK.len
   have lDi:=lD i
   have gK:=xK.get (gD i)
   have hkl:=knwM_len (o:=o) (ok:=ok) i
   have adr:indexAddrA prog 25 (.slice (some ⟨id,ver,0⟩) o.length o.length) (.int .i64 (i:Int))=some (.ptr (some ⟨id,ver,i⟩)):=by
    rw [adr_sl Fc.el25 Fc.ar25 (by omega) (by omega),Int.toNat_natCast,Nat.mul_one,Nat.zero_add]
   obtain ⟨k,ek⟩:∃ k,k=o.getD i 0:=⟨_,rfl⟩
   have d1:loadP prog K 3 (.ptr (some ⟨id,ver,i⟩))=some (.int .i64 k):=by
    rw [load_eq,Fc.ty3,gK,ldB_ints (by omega),knwM_at (by omega),if_neg (by omega),ek]
   obtain ⟨K1,eK1⟩:∃ K1,K1=K++[nB (i:Int)]:=⟨_,rfl⟩
   obtain ⟨K2,eK2⟩:∃ K2,K2=K1++[nB k]:=⟨_,rfl⟩
   have y1:Ext K K1:=by rw [eK1];exact .app .refl
   have y2:Ext K1 K2:=by rw [eK2];exact .app .refl
   have lK1:K1.length=K.length+1:=by rw [eK1];simp
   have lK2:K2.length=K.length+2:=by rw [eK2];simp [lK1]
   have ga:K2[K.length]?=some (nB (i:Int)):=by rw [eK2];exact get_app (by rw [eK1];exact get_eq rfl)
   have gb:K2[K.length+1]?=some (nB k):=by rw [eK2];exact get_eq lK1.symm
   have xDK:=(xK.trans y1).trans y2
   have hev:=every_Z (base:=base) (b:=G0.length) (h:=K2) (v:=x) (g:=.fn 107 [] [.ptr (some ⟨K.length,0,0⟩),.ptr (some ⟨K.length+1,0,0⟩)]) (ts:=fnd L) (fun t=>decide (t.getD i 0=k)) (by omega) ⟨rfl,rfl,rfl⟩ (hAI.ext ((xD i).trans xDK)) (by omega)
    (fun z t ht hz=>run_kn1 (get_app ga) (get_app gb) ((ownE_ints hz (ord_small (hord t ht) (by omega))).ext (.app .refl)) (by have:=(hord t ht).1;omega))
   rw [show (fnd L).all (fun t=>decide (t.getD i 0=k))=ok i by rw [eok,ek];rfl] at hev
   obtain ⟨K3,eK3⟩:∃ K3,K3=K2++[evZ (.fn 107 [] [.ptr (some ⟨K.length,0,0⟩),.ptr (some ⟨K.length+1,0,0⟩)])]:=⟨_,rfl⟩
   rw [← eK3] at hev
   have y3:Ext K2 K3:=by rw [eK3];exact .app .refl
   have ga3:=y3.get ga
   have xD3:=xDK.trans y3
   have gK3:=xD3.get (gD i)
   have l3:=xD3.len
   unfold nB at eK1 eK2 ga3
   cases c5:ok i with
   | true =>
    rw [c5] at hev
    have hDi:D (i+1)=D i:=by rw [eD];simp only [knwM,if_pos c5]
    have hsp:=@Nat.succ_ne_zero;repeat' (first|simp (disch:=first|exact dqb|fail) only [go_sem,↓reduceIte,hsp,r25,p2,p3,p5,p7,p23,p24,hlt,adr,d1,← eK1,← eK2,hev]|refine WP_drw ?_|refine cnd_intro (fun hsp=>?_) fun hsp=>?_)
    exact ⟨agq,by omega,by rw [hDi];exact xD3⟩
   | false =>
    rw [c5] at hev
    have hst:∀ {F:ABlk→Heap},stQ base id (some (iB (knwM o ok i) ver)) ver i [.int .i64 (-1)] F=some (F (iB ((knwM o ok i).set i (-1)) ver)):=fun {F}=>stQ_ints (by omega)
    have hkm:(knwM o ok i).set i (-1)=knwM o ok (i+1):=by rw [knwM,if_neg (by rw [c5];simp)]
    rw [hkm] at hst
    have hfin:Ext (D (i+1)) (K3.set id (iB (knwM o ok (i+1)) ver)):=by
     have:=xD3.set2 (i:=id) (k:=iB (knwM o ok (i+1)) ver) (by omega)
     rwa [hDs] at this
    have hsp:=@Nat.succ_ne_zero;repeat' (first|simp (disch:=first|exact dqb|fail) only [go_sem,↓reduceIte,hsp,r25,p2,p3,p5,p7,p23,p24,hlt,adr,d1,← eK1,← eK2,hev,ga3,gK3,hst]|refine WP_drw ?_|refine cnd_intro (fun hsp=>?_) fun hsp=>?_)
    exact ⟨agq,by omega,hfin⟩
  ·rintro fr K hA2 ⟨r25,xK⟩
   have p2:=hA2 2 rfl
   have p3:=hA2 3 rfl
   have p5:=hA2 5 rfl
   have p7:=hA2 7 rfl
   have p23:=hA2 23 rfl
   have p24:=hA2 24 rfl
   try simp (disch:=first|exact dqb|fail) only [go_sem,↓reduceIte] at p2 p3 p5 p7 p23 p24
   have hlt:((o.length:Int)<(o.length:Int))=False:=eq_false (by omega)
   have gK:=xK.get (gD o.length)
   have hfe:knwM o ok o.length=knwL n (fnd L):=by
    rw [eok,eo,← knwM_all (n:=n) (by rw [← eo];exact hol)]
    rw [← eo,hol]
   have hsp:=@Nat.succ_ne_zero;repeat' (first|simp (disch:=first|exact dqb|fail) only [go_sem,↓reduceIte,hsp,r25,p2,p3,p5,p7,p23,p24,hlt]|refine WP_drw ?_|refine cnd_intro (fun hsp=>?_) fun hsp=>?_)
   refine ⟨((x0.trans x1).trans (xD _)).trans xK,_,rfl,.inl (.inr ⟨id,ver,?_,?_,by omega,?_⟩)⟩
   ·rw [← hfe,knwM_len]
   ·rw [gK,rowE_iB,hfe]
   ·rw [← hfe,knwM_len];omega
 ·have t0:((fndE L).2=0)=False:=eq_false c
  have r:kwnE L=([],(fndE L).2):=by unfold kwnE;rw [if_neg c]
  rw [r]
  refine ret_raw func41 rfl (by kernel_rfl) ?_
  have hsp:=@Nat.succ_ne_zero;repeat' (first|simp (disch:=first|exact dqb|fail) only [go_sem,↓reduceIte,hsp,← eG0,g0,e1,t0]|refine WP_drw ?_|refine cnd_intro (fun hsp=>?_) fun hsp=>?_)
  exact ⟨x0.trans x1,_,rfl,.inl Own.nil⟩
end Go.AM
namespace Go.AM
open Go.Proofs.Try
attribute [-go_sem] put_ne put_same
attribute [local go_sem ↓] put_if
def kyN (l o:List Int) (i:Nat):List Int:=((l.take i).map fun p=>o.getD p.toNat 0)++List.replicate (7-i) 0
def kyA (l o:List Int):List Int:=keyL l o++List.replicate (7-l.length) 0
abbrev mbB (m:Nat):ABlk:=⟨.cells [.map (some m)] 156 false false,0⟩
abbrev kyB (k:List Int):ABlk:=⟨.cells (ints k) 157 false false,0⟩
end Go.AM
namespace Go.AM
open Go.Proofs.Try
attribute [-go_sem] put_ne put_same
attribute [local go_sem ↓] put_if
def prC (b:ABlk):Prop:=∀ es,b ≠ ⟨.map es,0⟩
def dcdE (L:Lac):List Int × Int:=if (fndE L).2=0 then (dcdL L.C.length (fnd L),0) else ([],(fndE L).2)
end Go.AM
namespace Go.AM
open Go.Proofs.Try
attribute [-go_sem] put_ne put_same
attribute [local go_sem ↓] put_if
theorem run_pos2 {base:Nat} {h:Heap} {T x:Int} {cv rv:AVal} {l:List Int} (hC:Ints h cv l) (o2:One rv):callL prog raw base (.fn 113 [] []) [.agg [.int .i64 T,cv,rv],.int .i64 x] h=some (.bool (decide (0≤x∧x≤(l.length:Int)-1)),h):=by
 have o1:=hC.one
 have hb:=hC.1.1
 obtain ⟨G,eG⟩:∃ G,G=h++[lacB T cv rv]:=⟨_,rfl⟩
 have xG:Ext h G:=by rw [eG];exact .app .refl
 have g0:G[h.length]?=some (lacB T cv rv):=by rw [eG];exact get_eq rfl
 have hl:=lenI (hC.ext xG)
 unfold lacB at eG g0
 refine callL_run func113 rfl rfl ?_
 have hsp:=@Nat.succ_ne_zero;repeat' (first|simp (disch:=first|exact dqb|fail) only [go_sem,↓reduceIte,hsp,← eG,g0,hl]|refine WP_drw ?_|refine cnd_intro (fun hsp=>?_) fun hsp=>?_)
 exact fB rfl xG
def fitE (L:Lac) (p:Int):List Int × Int:=if chkL L ≠ 0 then ([],chkL L) else if ¬ (0≤p∧p≤(L.C.length:Int)-1) then ([],1) else (fitL L p.toNat,0)
set_option maxHeartbeats 1000000 in
theorem run_Fit {base:Nat} {h:Heap} {v:AVal} {L:Lac} {p:Int} (hb:base≤h.length) (hL:LacAt h v L) :
  Ret prog raw base (.fn 49 [] []) [v,.int .i64 p] h (fun w H=>Ext h H∧∃ x,w=.tuple [x,.int .i64 (fitE L p).2]∧Own encI 3 h.length H x (fitE L p).1):=by
 have hL0:=hL
 obtain ⟨cv,rv,rfl,hC,hR⟩:=hL
 have o1:=hC.one
 have o2:=hR.one
 obtain ⟨G0,eG0⟩:∃ G0,G0=h++[lacB L.T cv rv]:=⟨_,rfl⟩
 have x0:Ext h G0:=by rw [eG0];exact .app .refl
 have g0:G0[h.length]?=some (lacB L.T cv rv):=by rw [eG0];exact get_eq rfl
 have l0:G0.length=h.length+1:=by rw [eG0];simp
 obtain ⟨w1,H1,e1,x1,r1,r2⟩:=run_opened (base:=base) (h:=G0) (by omega) (hL0.ext x0)
 have l1:=x1.len
 have g1:=x1.get g0
 have hps2:=run_pos2 (base:=base) (T:=L.T) (x:=p) (rv:=rv) (hC.ext (x0.trans x1)) o2
 unfold lacB at eG0 g0 g1
 refine ret_raw func49 rfl (by kernel_rfl) ?_
 by_cases c0:chkL L=0
 ·obtain ⟨id,rfl,hid,hD⟩:=r2 c0
  have kn:=(chkL_iff.1 c0).n
  by_cases c1:0≤p∧p≤(L.C.length:Int)-1
  ·rw [decide_eq_true c1] at hps2
   obtain ⟨q,rfl⟩:=Int.eq_ofNat_of_zero_le c1.1
   obtain ⟨w2,H2,e2,x2,oF⟩:=run_fit (base:=base) (p:=q) (by omega) hD kn.2 (by omega)
   have ow:=oF.one
   have hl2:=x2.len
   have r:fitE L (q:Int)=(fitL L q,0):=by unfold fitE;rw [if_neg (by simp [c0]),if_neg (fun z=>z c1),Int.toNat_natCast]
   rw [r]
   have hsp:=@Nat.succ_ne_zero;repeat' (first|simp (disch:=first|exact dqb|fail) only [go_sem,↓reduceIte,hsp,← eG0,g0,e1,eq_self,g1,hps2,e2]|refine WP_drw ?_|refine cnd_intro (fun hsp=>?_) fun hsp=>?_)
   exact ⟨(x0.trans x1).trans x2,_,rfl,oF.low (by omega)⟩
  ·rw [decide_eq_false c1] at hps2
   have r:fitE L p=([],1):=by unfold fitE;rw [if_neg (by simp [c0]),if_pos c1]
   rw [r]
   have hsp:=@Nat.succ_ne_zero;repeat' (first|simp (disch:=first|exact dqb|fail) only [go_sem,↓reduceIte,hsp,← eG0,g0,e1,eq_self,g1,hps2]|refine WP_drw ?_|refine cnd_intro (fun hsp=>?_) fun hsp=>?_)
   exact ⟨x0.trans x1,_,rfl,Own.nil⟩
 ·have t0:(chkL L=0)=False:=eq_false c0
  have q:=r1 c0
  subst q
  have r:fitE L p=([],chkL L):=by unfold fitE;rw [if_pos c0]
  rw [r]
  have hsp:=@Nat.succ_ne_zero;repeat' (first|simp (disch:=first|exact dqb|fail) only [go_sem,↓reduceIte,hsp,← eG0,g0,e1,t0,g1]|refine WP_drw ?_|refine cnd_intro (fun hsp=>?_) fun hsp=>?_)
  exact ⟨x0.trans x1,_,rfl,Own.nil⟩
def xplD (L:Lac) (o:List Int) (i:Nat):Bool:=(List.range i).all fun i=>fitB L i (o.getD i 0).toNat
def lcdE (L:Lac) (o:List Int):Int:=if chkL L=0 then ordL o L.C.length else chkL L
def xpsE (L:Lac) (o:List Int):Bool × Int:=if lcdE L o=0 then (xplD L o o.length,0) else (false,lcdE L o)
def prmB (l:List Int) (n:Nat):Bool:=decide (l.length=n) && (upto n).all fun k=>decide (k ∈ l)
end Go.AM
namespace Go.AM
open Go.Proofs.Try
attribute [-go_sem] put_ne put_same
attribute [local go_sem ↓] put_if
def makE (o:List Int) (ms:List (Int × Int)):List Int × Int:=if aloL o=0 then makF o.length ms o else ([],aloL o)
theorem perm_small' {l m:List Int} (h:l.Perm m) (hs:Small m):Small l:=⟨by rw [h.length_eq];exact hs.1,fun x hx=>hs.2 x (h.mem_iff.1 hx)⟩
set_option maxHeartbeats 2000000 in
theorem run_Make {base:Nat} {h:Heap} {v mv:AVal} {o:List Int} {ms:List (Int × Int)} (hb:base≤h.length) (hI:Ints h v o) (hM:Rows encM h mv ms) (hml:ms.length≤100000) :
  Ret prog raw base (.fn 26 [] []) [v,mv] h (fun w H=>Ext h H∧∃ x,w=.tuple [x,.int .i64 (makE o ms).2]∧OwnE encI 3 h.length H x (makE o ms).1):=by
 have ha:=fun base=>run_alone (base:=base) hI
 have hv1:=hI.one
 have hm1:=hM.one
 by_cases c:aloL o=0
 ·obtain ⟨c1,c2,c3⟩:=aloL_iff.1 c
  rw [c] at ha
  have hsm:=small_ints hI (by omega)
  obtain ⟨n,en⟩:∃ n,n=o.length:=⟨_,rfl⟩
  have r:makE o ms=makF n ms o:=by unfold makE;rw [if_pos c,en]
  rw [r]
  obtain ⟨v1,H1,e1,x1,o1⟩:=run_cloneE (base:=base) hI hsm
  have hl1:=x1.len
  have ov1:=o1.one
  have hlm:=(hM.ext x1).len (P:=prog) Fc.el33
  refine ret_raw func26 rfl (by kernel_rfl) ?_
  have hsp:=@Nat.succ_ne_zero;repeat' (first|simp (disch:=first|exact dqb|fail) only [go_sem,↓reduceIte,hsp,ha,eq_self,e1,hlm]|refine WP_drw ?_|refine cnd_intro (fun hsp=>?_) fun hsp=>?_)
  refine WP_count [(4,9),(19,42)] 0 ms.length (Nat.zero_le _) (fun _ i fr K=>fr 19=.int .i64 (i:Int)∧Ext h K∧∃ o' w,fr 7=w∧OwnE encI 3 h.length K w o'∧o'.Perm o∧makF n ms o=makF n (ms.drop i) o') ?_ ?_ ?_
  ·exact ⟨by (simp (disch:=first|exact dqb|fail) only [go_sem,↓reduceIte,Int.natCast_zero];first|done|rfl),x1,o,v1,by simp (disch:=first|exact dqb|fail) only [go_sem,↓reduceIte],o1,.refl _,rfl⟩
  ·rintro i fr K hi0 hi hA ⟨r19,xK,o',w,r7,hO,hp,hF⟩
   have p17:=hA 17 rfl
   have p18:=hA 18 rfl
   try simp (disch:=first|exact dqb|fail) only [go_sem,↓reduceIte] at p17 p18
   have hlt:((i:Int)<(ms.length:Int))=True:=eq_true (by omega)
   obtain ⟨⟨a,b⟩,em⟩:∃ m,ms[i]=m:=⟨_,rfl⟩
   have hx:ms[i]?=some (a,b):=by rw [List.getElem?_eq_getElem hi,em]
   have hMK:=hM.ext xK
   have ad:=hMK.addr (P:=prog) (i:=(i:Int)) Fc.el33 Fc.ar33 (by omega) (by omega)
   rw [Int.toNat_natCast] at ad
   have ld:=hMK.load (P:=prog) Fc.ty36 hx
   simp only [encM] at ad ld
   have hw1:=hO.one
   have hKl:=xK.len
   have hol:o'.length=n:=by rw [hp.length_eq,en]
   obtain ⟨G,eG⟩:∃ G,G=K++[mvB a b]:=⟨_,rfl⟩
   have xG:Ext K G:=by rw [eG];exact .app .refl
   have gG:G[K.length]?=some (mvB a b):=by rw [eG];exact get_eq rfl
   have hGl:=xG.len
   have iG:=(ownE_ints hO (perm_small' hp hsm)).ext xG
   have lG:=lenI iG
   have hst:makF n (ms.drop i) o'=if (0≤a∧a<(n:Int))∧(0≤b∧b<(n:Int)) then makF n (ms.drop (i+1)) (mvL o' a.toNat b.toNat) else ([],1):=by
    rw [List.drop_eq_getElem_cons hi,em,makF]
   unfold mvB at eG gG
   by_cases q1:0≤a∧a<(n:Int)
   ·have t1:decide (0≤a∧a≤(o'.length:Int)-1)=true:=decide_eq_true (by omega)
    by_cases q2:0≤b∧b<(n:Int)
    ·have t2:decide (0≤b∧b≤(o'.length:Int)-1)=true:=decide_eq_true (by omega)
     rw [if_pos ⟨q1,q2⟩] at hst
     obtain ⟨a',rfl⟩:=Int.eq_ofNat_of_zero_le q1.1
     obtain ⟨b',rfl⟩:=Int.eq_ofNat_of_zero_le q2.1
     rw [Int.toNat_natCast,Int.toNat_natCast] at hst
     obtain ⟨w2,H2,e2,x2,o2⟩:=run_made (base:=base) (f:=a') (t:=b') (by omega) iG (by omega) (by omega) (by omega)
     have ow2:=o2.one
     have hsp:=@Nat.succ_ne_zero;repeat' (first|simp (disch:=first|exact dqb|fail) only [go_sem,↓reduceIte,hsp,r19,r7,p17,p18,hlt,ad,ld,← eG,gG,lG,t1,t2,e2]|refine WP_drw ?_|refine cnd_intro (fun hsp=>?_) fun hsp=>?_)
     refine ⟨agq,by omega,xK.trans (xG.trans x2),_,w2,rfl,OwnE.low (b':=h.length) (.inl o2) (by omega),(mvL_perm (by omega) (by omega)).trans hp,by rw [hF,hst]⟩
    ·have t2:decide (0≤b∧b≤(o'.length:Int)-1)=false:=decide_eq_false (by omega)
     rw [if_neg (fun q=>q2 q.2)] at hst
     have hsp:=@Nat.succ_ne_zero;repeat' (first|simp (disch:=first|exact dqb|fail) only [go_sem,↓reduceIte,hsp,r19,r7,p17,p18,hlt,ad,ld,← eG,gG,lG,t1,t2]|refine WP_drw ?_|refine cnd_intro (fun hsp=>?_) fun hsp=>?_)
     exact ⟨xK.trans xG,_,by rw [hF,hst],by rw [hF,hst];exact .inl Own.nil⟩
   ·have t1:decide (0≤a∧a≤(o'.length:Int)-1)=false:=decide_eq_false (by omega)
    rw [if_neg (fun q=>q1 q.1)] at hst
    have hsp:=@Nat.succ_ne_zero;repeat' (first|simp (disch:=first|exact dqb|fail) only [go_sem,↓reduceIte,hsp,r19,r7,p17,p18,hlt,ad,ld,← eG,gG,lG,t1]|refine WP_drw ?_|refine cnd_intro (fun hsp=>?_) fun hsp=>?_)
    exact ⟨xK.trans xG,_,by rw [hF,hst],by rw [hF,hst];exact .inl Own.nil⟩
  ·rintro fr K hA ⟨r19,xK,o',w,r7,hO,hp,hF⟩
   have p17:=hA 17 rfl
   have p18:=hA 18 rfl
   try simp (disch:=first|exact dqb|fail) only [go_sem,↓reduceIte] at p17 p18
   have hlt:((ms.length:Int)<(ms.length:Int))=False:=eq_false (by omega)
   have hw1:=hO.one
   rw [List.drop_length,makF] at hF
   have hsp:=@Nat.succ_ne_zero;repeat' (first|simp (disch:=first|exact dqb|fail) only [go_sem,↓reduceIte,hsp,r19,r7,p17,p18,hlt]|refine WP_drw ?_|refine cnd_intro (fun hsp=>?_) fun hsp=>?_)
   exact ⟨xK,_,by rw [hF],by rw [hF];exact hO⟩
 ·have t1:(aloL o=0)=False:=eq_false c
  have r:makE o ms=([],aloL o):=by unfold makE;rw [if_neg c]
  rw [r]
  refine ret_raw func26 rfl (by kernel_rfl) ?_
  have hsp:=@Nat.succ_ne_zero;repeat' (first|simp (disch:=first|exact dqb|fail) only [go_sem,↓reduceIte,hsp,ha,t1]|refine WP_drw ?_|refine cnd_intro (fun hsp=>?_) fun hsp=>?_)
  exact ⟨.refl,_,rfl,.inl Own.nil⟩
end Go.AM
namespace Go.AM
open Go.Proofs.Try
attribute [-go_sem] put_ne put_same
attribute [local go_sem ↓] put_if
end Go.AM
namespace Go.AM
end Go.AM
namespace Go.AM
open Go.Proofs.Try
attribute [-go_sem] put_ne put_same
attribute [local go_sem ↓] put_if
def wvL (L:Lac) (o:List Int) (n:Nat):List Int:=lst (fun t=>L.C.getD (o.getD (t % o.length) 0).toNat 0) n
def wvE (L:Lac) (o:List Int) (n:Int):List Int × Int:=if lcdE L o=0 then (if 0≤n∧n≤999 then (wvL L o n.toNat,0) else ([],3)) else ([],lcdE L o)
def trdE (L:Lac) (o ring:List Int):List Int × Int :=
 if lcdE L o ≠ 0 then ([],lcdE L o) else if ring.length<2 then ([],2) else if ¬ (ring.all fun x=>decide (0≤x∧x≤(L.C.length:Int)-1))=true then ([],1) else if twB ring=true then ([],5) else
 if (xplD L o o.length && xplD L (trnL o ring) o.length)=true then (trnL o ring,0) else ([],8)
end Go.AM
namespace Go.AM
open Go.Proofs.Try
attribute [-go_sem] put_ne put_same
attribute [local go_sem ↓] put_if
def IsRing (L:Lac) (l:List Int):Prop:=∃ o1 o2 a r,(fnd L)[0]?=some o1∧(fnd L)[1]?=some o2∧a<L.C.length∧o1.getD a 0 ≠ o2.getD a 0∧0<r∧itr o1 o2 a r=a∧(∀ i,0<i→i<r→itr o1 o2 a i ≠ a)∧l=rngL o1 o2 a r
def rngE (L:Lac):Int:=if (fndE L).2=0 then (if (fnd L).length=1 then 6 else 0) else (fndE L).2
end Go.AM
namespace Go.AM
open Go.Proofs.Try
section
variable {α:Type} {E:Enc α} {P:Program} {base:Nat} {h:Heap} {v:AVal} {l:List α} {t e:TypeId} {zs:List AVal}
theorem app_empE (hR:Rows E h v l) (hl:l ≠ []) (hs:∀ y,(E.cells y).all AVal.scalar=true) (hsz:l.length<2147483648) (ht:elS P t=some (e,E.z,zs)) :
  appendA P base h t .emp v=some (.slice (some ⟨h.length,0,0⟩) l.length l.length,h++[rowE E e l 0]):=by
 have hn:l.length ≠ 0:=fun q=>hl (List.eq_nil_of_length_eq_zero q)
 simp only [appendA,ht,hR.lenA,hR.firstN,flat_scalar hs,if_true]
 rw [if_neg hn,if_pos (show l.length<2 ^ 31 by omega)]
 first|done|rfl
end
end Go.AM
namespace Go.AM
open Go.Proofs.Try
attribute [-go_sem] put_ne put_same
attribute [local go_sem ↓] put_if
end Go.AM
namespace Go.AM
open Go.Proofs.Try
attribute [-go_sem] put_ne put_same
attribute [local go_sem ↓] put_if
def moreR (L:Lac) (r:Rw3):Lac:=⟨L.T,L.C,L.R++[r]⟩
def lac0:Lac:=⟨0,[],[]⟩
def seeE (L:Lac) (r:Rw3):Lac × Int:=if chkL L=0 then (if L.R.length=12 then (lac0,9) else if chkL (moreR L r)=0 then (moreR L r,0) else (lac0,chkL (moreR L r))) else (lac0,chkL L)
def OwnC (b:Nat) (H:Heap) (v:AVal) (L:Lac):Prop:=∃ cv rv,v=.agg [.int .i64 L.T,cv,rv]∧OwnE encI 3 b H cv L.C∧OwnE encR 70 b H rv L.R
theorem lac_small {L:Lac} (h:chkL L=0):Small L.C:=by
 obtain ⟨kT,kn,km,kc,kr,kd⟩:=chkL_iff.1 h
 refine ⟨by omega,fun x hx=>?_⟩
 have h1:=kc x hx
 have h2:(2:Int) ^ L.T.toNat≤2 ^ 8:=by exact_mod_cast Nat.pow_le_pow_right (by decide) (show L.T.toNat≤8 by omega)
 omega
end Go.AM
namespace Go.AM
open Go.Proofs.Try
attribute [-go_sem] put_ne put_same
attribute [local go_sem ↓] put_if
end Go.AM
namespace Go.AM
open Go.Proofs.Try
attribute [-go_sem] put_ne put_same
attribute [local go_sem ↓] put_if
def mndE (o:List Int):List (Int × Int) × Int:=if aloL o=0 then (mndL o,0) else ([],aloL o)
theorem mndN_succ {s:MndS} {k:Nat}:mndN s (k+1)=mndS (mndN s k) (k:Int):=rfl
end Go.AM
namespace Go.AM
open Go.Proofs.Try
attribute [-go_sem] put_ne put_same
attribute [local go_sem ↓] put_if
structure PilAt (b:Nat) (H:Heap) (u:AVal) (vs:List AVal) (ps:List (List Int)):Prop where
 own:Own encZ 25 b H u vs
 len:vs.length=ps.length
 el:∀ (i:Nat) x t,vs[i]?=some x→ps[i]?=some t→Own encI 3 b H x t
 apart:∀ (i j:Nat) x y,i ≠ j→vs[i]?=some x→vs[j]?=some y→Asun x y
end Go.AM
namespace Go.AM
open Go.Proofs.Try
attribute [-go_sem] put_ne put_same
attribute [local go_sem ↓] put_if
def pilE (o:List Int):List (List Int) × Int:=if aloL o=0 then (pilN o o.length,0) else ([],aloL o)
end Go.AM
namespace Go.AM
open Go.Proofs.Try
attribute [-go_sem] put_ne put_same
attribute [local go_sem ↓] put_if
end Go.AM
namespace Go.AM
open Go.Proofs.Try
attribute [-go_sem] put_ne put_same
attribute [local go_sem ↓] put_if
def badAt (o pile:List Int) (i:Nat):Bool :=
 !decide (0≤pile.getD i 0∧pile.getD i 0≤(o.length:Int)-1) || (decide (0<i) && (decide (pile.getD i 0≤pile.getD (i-1) 0) || decide (o.getD (pile.getD i 0).toNat 0 ≥ o.getD (pile.getD (i-1) 0).toNat 0)))
def pilB (o pile:List Int):Bool:=decide (pile ≠ []) && (List.range pile.length).all fun i=>!badAt o pile i
def shwE (o:List Int) (ps:List (List Int)):Int × Int :=
 if aloL o ≠ 0 then (0,aloL o) else if ps.all (pilB o)=false then (0,8) else if ps.flatten.length ≠ o.length ∨ twB ps.flatten=true then (0,8) else ((ps.length:Int),0)
end Go.AM
namespace Go.AM
theorem pair_at {α:Type} {R:α→α→Prop} {l:List α} (h:l.Pairwise R) {i j:Nat} (hij:i<j) (hj:j<l.length):R (l[i]'(by omega)) l[j]:=List.pairwise_iff_getElem.1 h i j (by omega) hj hij
theorem upto_nd (n:Nat):(upto n).Nodup:=(upto_sorted n).imp fun h=>by omega
end Go.AM
namespace Go.AM
open Go.Proofs.Try
attribute [-go_sem] put_ne put_same
attribute [local go_sem ↓] put_if
def looks (L:Lac) (real ps:List Int):List Rw3:=ps.map fun p=>(p,2 ^ L.T.toNat-1,L.C.getD (real.getD p.toNat 0).toNat 0)
def shwL (L:Lac) (real ps:List Int):Lac:=⟨L.T,L.C,L.R++looks L real ps⟩
theorem snocR {b base:Nat} {A:Heap} {w:AVal} {l:List Rw3} {r:Rw3} (hO:OwnE encR 70 b A w l) (hb:base≤b) (hbh:b≤A.length) (hl:l.length≤1000000) :
  ∃ w' H,appendA prog base (A++[rowE encR 70 [r] 0]) 42 w (.slice (some ⟨A.length,0,0⟩) 1 1)=some (w',H)∧Own encR 70 b H w' (l++[r])∧A.length≤H.length∧(∀ G,G.length≤b→Ext G A→Ext G H)∧One w'∧KeepO encR 70 A H:=by
 obtain ⟨B,eB⟩:∃ B,B=A++[rowE encR 70 [r] 0]:=⟨_,rfl⟩
 have xB:Ext A B:=by rw [eB];exact .app .refl
 have lB':B.length=A.length+1:=by rw [eB];simp
 have hx:Rows encR B (.slice (some ⟨A.length,0,0⟩) 1 1) [r]:=Rows.own (by rw [eB];exact get_eq rfl) rfl (by simp)
 rw [← eB]
 rcases hO with hO|⟨rfl,rfl⟩
 ·obtain ⟨w',H,a1,a2,a3,a4,a5,a6⟩:=(hO.ext xB).appendRX (P:=prog) (base:=base) (t:=42) hx Fc.el42 encR_sc hb (by omega) (by simp) (by simp;omega)
  have a6:KeepO encR 70 B H:=a6
  exact ⟨w',H,a1,a2,by omega,fun G h1 h2=>a4 G h1 (h2.trans xB),a5,fun i y hi hy=>a6 i y (xB.get hi) hy⟩
 ·have:=app_empE (base:=base) hx (by simp) encR_sc (by simp) Fc.el42
  exact ⟨_,_,this,.inr ⟨B.length,0,rfl,get_eq rfl,by omega,by simp⟩,by simp;omega,fun G _ q=>(q.trans xB).trans (.app .refl),⟨rfl,rfl,rfl⟩,fun i y hi _=>get_app (xB.get hi)⟩
end Go.AM
namespace Go.AM
open Go.Proofs.Try
theorem orN {t:TypeId} {a b:Nat} (ha:a<2 ^ 62) (hb:b<2 ^ 62):binA prog .or t (.int .i64 (a:Int)) (.int .i64 (b:Int))=some (.int .i64 ((a ||| b:Nat):Int)):=by
 have hx:a ||| b<2 ^ 62:=Nat.or_lt_two_pow ha hb
 have e:BitVec.ofInt 64 (a:Int) ||| BitVec.ofInt 64 (b:Int)=BitVec.ofNat 64 (a ||| b):=by
  apply BitVec.eq_of_toNat_eq
  simp only [BitVec.toNat_or,BitVec.toNat_ofInt,BitVec.toNat_ofNat]
  have h3:(a:Int) % ((2 ^ 64:Nat):Int)=a:=Int.emod_eq_of_lt (by omega) (by omega)
  have h4:(b:Int) % ((2 ^ 64:Nat):Int)=b:=Int.emod_eq_of_lt (by omega) (by omega)
  rw [h3,h4,Nat.mod_eq_of_lt (by omega)]
  rfl
 show some (AVal.int .i64 (IntKind.i64.wrap ((BitVec.ofInt 64 (a:Int) ||| BitVec.ofInt 64 (b:Int)).toNat:Int)))=_
 rw [e,BitVec.toNat_ofNat,Nat.mod_eq_of_lt (by omega),wrap64 (by omega) (by omega)]
end Go.AM
