/-
  Contracts: short lists of integers are sorted in place (slices.Sort, at most 12 elements).
-/
import Derived.Test.YteanoaejoddnbaaU11
import Derived.Test.YteanoaejoddnbaaU13
import Derived.Test.YteanoaejoddnbaaU14
import Derived.Test.YteanoaejoddnbaaU12
set_option linter.unusedSimpArgs false
set_option linter.unusedVariables false
namespace Go.AM
open Go.Proofs.Try
attribute [-go_sem] put_ne put_same
attribute [local go_sem ↓] put_if
theorem ev_str {fr:AFrame} {s:ByteArray}:ev fr (.const (.string s))=.str s:=rfl
def lenT (n:Nat):Nat:=[0,1,2,2,3,3,3,3,4,4,4,4,4].getD n 0
def Srt (m:List Int) (i j:Nat):Prop:=∀ a b,a<b→b≤i→b ≠ j→m.getD a 0≤m.getD b 0
def swp (m:List Int) (j:Nat):List Int:=(m.set (j+1) (m.getD j 0)).set j (m.getD (j+1) 0)
theorem getD_setI {l:List Int} {i j:Nat} {b:Int} (hi:i<l.length):(l.set i b).getD j 0=if i=j then b else l.getD j 0:=by
 rw [List.getD_eq_getElem?_getD,List.getElem?_set,List.getD_eq_getElem?_getD]
 by_cases e:i=j
 ·subst e;simp [hi]
 ·simp [e]
abbrev srB (m:List Int) (e:TypeId) (ver:Nat):ABlk:=⟨.cells (ints m) e true false,ver⟩
def srtL (l:List Int):List Int:=l.mergeSort fun a b=>decide (a≤b)
end Go.AM
namespace Go.AM
open Go.Proofs.Try
theorem dqc {p:Prop} (h:p:=by first|exact Nat.ne_of_beq_eq_false rfl|assumption|(apply asOne;(first|exact One.int|exact One.bool|assumption|exact Ints.one (by assumption)|exact Rows.one (by assumption)|exact Own.one (by assumption)|exact One.lit ⟨rfl,rfl,rfl⟩))|(apply asSp;(repeat first|assumption|apply SpAt.set|(refine SpAt.new ?_ (by (first|rfl|(simp only [List.length_append,List.length_cons,List.length_nil,List.length_set];done)|(simp only [List.length_append,List.length_cons,List.length_nil,List.length_set];omega))))|apply SpAt.app|apply Bytes.app);done)|(apply asBytes;(repeat first|assumption|apply Bytes.app);done)|(apply asInts;(repeat first|assumption|exact ints_nil|apply Ints.app);done)|(apply asRows;(repeat first|assumption|exact Rows.nil|apply Rows.app);done)|(apply asScal;(first|apply allS1|apply allS2|apply allS3|apply allS4)<;>(first|exact One.int|exact One.bool|assumption|exact Ints.one (by assumption)|exact Rows.one (by assumption)|exact Own.one (by assumption)|exact One.lit ⟨rfl,rfl,rfl⟩))|exact litT rfl|exact litF rfl|omega|(simp only [List.length_append,List.length_cons,List.length_nil,List.length_set,List.length_reverse];first|done|omega)|fail):p:=h
attribute [-go_sem] put_ne put_same
attribute [local go_sem ↓] put_if
theorem set_perm {a:List Int} {j:Nat} {x:Int} (hj:j<a.length):(a.set j x++[a.getD j 0]).Perm (a++[x]):=by
 have e1:a=a.take j++a.getD j 0 :: a.drop (j+1):=by
  conv=>lhs;rw [← List.take_append_drop j a]
  rw [List.drop_eq_getElem_cons hj,List.getD_eq_getElem?_getD,List.getElem?_eq_getElem hj];rfl
 have hl:(a.take j).length=j:=by rw [List.length_take];omega
 have e2:a.set j x=a.take j++x :: a.drop (j+1):=by
  generalize a.getD j 0=y at e1
  conv=>lhs;rw [e1]
  rw [List.set_append_right _ _ (by omega),hl,Nat.sub_self]
  rfl
 rw [e2]
 conv=>rhs;rw [e1]
 generalize a.take j=p
 generalize a.drop (j+1)=q
 generalize a.getD j 0=y
 simp only [List.append_assoc,List.cons_append]
 refine List.Perm.append_left p ?_
 refine (List.perm_append_comm (l₁:=x :: q) (l₂:=[y])).trans ?_
 exact (List.Perm.cons y (List.perm_append_comm (l₁:=[x]) (l₂:=q)))
theorem rep_zero:∀ n,repCells [AVal.int .i64 0] n=ints (List.replicate n 0)
 | 0=>rfl
 | n+1=>by rw [repCells,rep_zero n];rfl
theorem ord_step {a r:List Int} {j k n:Nat} (hk:a.length=k) (hj:j≤k) (hp:a.Perm (upto k)):∃ a',a'.length=k+1∧a'.Perm (upto (k+1))∧((a++List.replicate (n+1) 0).set k ((a++List.replicate (n+1) 0).getD j 0)).set j (k:Int)=a'++List.replicate n 0:=by
 rw [List.replicate_succ,upto_succ]
 by_cases e:j=k
 ·subst e
  refine ⟨a++[(j:Int)],by simp [hk],hp.append_right _,?_⟩
  rw [List.set_set,List.set_append_right _ _ (by omega),show j-a.length=0 by omega]
  simp
 ·have hja:j<a.length:=by omega
  refine ⟨a.set j k++[a.getD j 0],by simp [hk],(set_perm hja).trans (hp.append_right _),?_⟩
  rw [List.set_append_right _ _ (by omega),show k-a.length=0 by omega,List.set_cons_zero,List.set_append_left _ _ hja,List.append_assoc]
  rw [List.getD_eq_getElem?_getD,List.getElem?_append_left hja,← List.getD_eq_getElem?_getD]
  rfl
set_option maxHeartbeats 1000000 in
theorem run_order {base id k0 n:Nat} {h:Heap} {v:AVal} {silk:List Int} (hb:base≤h.length) (hS:SpAt h id v silk k0) (hk:k0+n≤900000) (hn:n≤1000) :
  Ret prog raw base (.fn 19 [] []) [.ptr (some ⟨id,0,0⟩),.int .i64 (n:Int)] h (fun w H=>SpE h id v silk (k0+n) H∧∃ l,OwnE encI 3 h.length H w l∧l.Perm (upto n)):=by
 have hid:=lt_of_get hS.1
 refine ret_raw func19 rfl (by kernel_rfl) ?_
 have hm:max 0 (n:Int)=(n:Int):=by omega
 cases n with
 | zero =>
  have hlt:((0:Int)<0)=False:=eq_false (by omega)
  have mk:makeSliceA prog h 25 (.int .i64 0) (.int .i64 0)=some (.emp,h):=by simp [makeSliceA,Fc.el25]
  have le:lenOpA prog h 25 .emp=some (.int .i64 0):=by simp [lenOpA,Fc.el25,lenA]
  have hsp:=@Nat.succ_ne_zero;repeat' (first|simp (disch:=first|exact dqc|fail) only [go_sem,↓reduceIte,hsp,Int.natCast_zero,show max (0:Int) 0=0 from rfl,mk,le]|refine WP_drw ?_|refine cnd_intro (fun hsp=>?_) fun hsp=>?_)
  rw [WP_loop1]
  have hsp:=@Nat.succ_ne_zero;repeat' (first|simp (disch:=first|exact dqc|fail) only [go_sem,↓reduceIte,hsp,hlt]|refine WP_drw ?_|refine cnd_intro (fun hsp=>?_) fun hsp=>?_)
  exact ⟨SpE.refl hS,[],.inr ⟨rfl,rfl⟩,.refl _⟩
 | succ n =>
  have mk:makeSliceA prog h 25 (.int .i64 ((n+1:Nat):Int)) (.int .i64 ((n+1:Nat):Int))=some (.slice (some ⟨h.length,0,0⟩) (n+1) (n+1),h++[srB (List.replicate (n+1) 0) 3 0]):=by
   simp only [makeSliceA,Fc.el25]
   rw [if_pos ⟨by omega,by omega,by omega⟩,if_neg (by omega),Int.toNat_natCast,rep_zero]
  have le:∀ {H:Heap},lenOpA prog H 25 (.slice (some ⟨h.length,0,0⟩) (n+1) (n+1))=some (.int .i64 ((n+1:Nat):Int)):=fun {H}=>by simp [lenOpA,Fc.el25,lenA]
  have hsp:=@Nat.succ_ne_zero;repeat' (first|simp (disch:=first|exact dqc|fail) only [go_sem,↓reduceIte,hsp,hm,mk,le]|refine WP_drw ?_|refine cnd_intro (fun hsp=>?_) fun hsp=>?_)
  refine WP_count [(6,7),(13,30)] 0 (n+1) (Nat.zero_le _) (fun _ i fr h'=>fr 13=.int .i64 (i:Int)∧∃ a:List Int,a.length=i∧a.Perm (upto i)∧h'=h.set id (spB v silk (k0+i))++[srB (a++List.replicate (n+1-i) 0) 3 0]) ?_ ?_ ?_
  ·refine ⟨by (simp (disch:=first|exact dqc|fail) only [go_sem,↓reduceIte,Int.natCast_zero];first|done|rfl),[],rfl,.refl _,?_⟩
   have e:=set_id hS.1
   show _=h.set id (spB v silk k0)++_
   rw [e];rfl
  ·rintro i fr H hi0 hi hA ⟨p13,a,hl,hp,eH⟩
   have p0:=hA 0 rfl
   have p4:=hA 4 rfl
   have p5:=hA 5 rfl
   have p12:=hA 12 rfl
   try simp (disch:=first|exact dqc|fail) only [go_sem,↓reduceIte] at p0 p4 p5 p12
   have hlt:((i:Int)<((n+1:Nat):Int))=True:=eq_true (by omega)
   have hSp:SpAt H id v silk (k0+i):=by rw [eH];exact hS.set.app
   have up1:=up_bd (silk:=silk) (k:=k0+i) (n:=(i:Int)) (by omega)
   obtain ⟨j,ej⟩:=Int.eq_ofNat_of_zero_le up1.1
   obtain ⟨q,eq⟩:∃ q,n+1-i=q+1:=⟨n-i,by omega⟩
   obtain ⟨m,em⟩:∃ m,m=a++List.replicate (q+1) (0:Int):=⟨_,rfl⟩
   have hml:m.length=n+1:=by rw [em];simp;omega
   rw [eq,← em] at eH
   obtain ⟨G,eG⟩:∃ G,G=H.set id (spB v silk (k0+i+1)):=⟨_,rfl⟩
   have eG2:G=h.set id (spB v silk (k0+i+1))++[srB m 3 0]:=by
    rw [eG,eH,List.set_append_left _ _ (by simpa using hid),List.set_set]
   have gG:G[h.length]?=some ⟨.cells (ints m) 3 true false,0⟩:=by rw [eG2];exact get_eq (by simp)
   have ru:=fun base=>run_upto (base:=base) (n:=(i:Int)) hSp (by omega) (by omega)
   rw [← eG,ej] at ru
   have adr:∀ x:Nat,x<n+1→indexAddrA prog 25 (.slice (some ⟨h.length,0,0⟩) (n+1) (n+1)) (.int .i64 (x:Int))=some (.ptr (some ⟨h.length,0,x⟩)):=fun x hx=>by
    rw [adr_sl Fc.el25 Fc.ar25 (by omega) (by omega),Int.toNat_natCast,Nat.mul_one,Nat.zero_add]
   have a1:=adr j (by omega)
   have a2:=adr i (by omega)
   have d1:loadP prog G 3 (.ptr (some ⟨h.length,0,j⟩))=some (.int .i64 (m.getD j 0)):=by
    rw [load_eq,Fc.ty3,gG];exact ldB_ints (by omega)
   have st1:∀ {K:ABlk→Heap},stQ base h.length (some ⟨.cells (ints m) 3 true false,0⟩) 0 i [.int .i64 (m.getD j 0)] K=some (K ⟨.cells (ints (m.set i (m.getD j 0))) 3 true false,0⟩):=fun {K}=>stQ_ints (by omega)
   have st2:∀ {K:ABlk→Heap},stQ base h.length (some ⟨.cells (ints (m.set i (m.getD j 0))) 3 true false,0⟩) 0 j [.int .i64 (i:Int)] K=some (K ⟨.cells (ints ((m.set i (m.getD j 0)).set j (i:Int))) 3 true false,0⟩):=fun {K}=>stQ_ints (by simp;omega)
   obtain ⟨G3,eG3⟩:∃ G3,G3=G.set h.length ⟨.cells (ints (m.set i (m.getD j 0))) 3 true false,0⟩:=⟨_,rfl⟩
   have g3:G3[h.length]?=some ⟨.cells (ints (m.set i (m.getD j 0))) 3 true false,0⟩:=by rw [eG3,List.getElem?_set_self (lt_of_get gG)]
   obtain ⟨a',h1,h2,h3⟩:=ord_step (r:=[]) (n:=q) hl (show j≤i by omega) hp
   rw [← em] at h3
   have hsp:=@Nat.succ_ne_zero;repeat' (first|simp (disch:=first|exact dqc|fail) only [go_sem,↓reduceIte,hsp,p0,p4,p5,p12,p13,hlt,ru,a1,a2,d1,gG,st1,← eG3,g3,st2]|refine WP_drw ?_|refine cnd_intro (fun hsp=>?_) fun hsp=>?_)
   refine ⟨agq,by omega,a',h1,h2,?_⟩
   rw [h3,eG3,eG2,List.set_set,List.set_append_right _ _ (by simp),List.length_set,Nat.sub_self,show n+1-(i+1)=q by omega]
   rfl
  ·rintro fr H hA ⟨p13,a,hl,hp,eH⟩
   have p0:=hA 0 rfl
   have p4:=hA 4 rfl
   have p5:=hA 5 rfl
   have p12:=hA 12 rfl
   try simp (disch:=first|exact dqc|fail) only [go_sem,↓reduceIte] at p0 p4 p5 p12
   have hlt:(((n+1:Nat):Int)<((n+1:Nat):Int))=False:=eq_false (by omega)
   have hsp:=@Nat.succ_ne_zero;repeat' (first|simp (disch:=first|exact dqc|fail) only [go_sem,↓reduceIte,hsp,p0,p4,p5,p12,p13,hlt]|refine WP_drw ?_|refine cnd_intro (fun hsp=>?_) fun hsp=>?_)
   rw [Nat.sub_self,List.replicate_zero,List.append_nil] at eH
   refine ⟨by rw [eH];exact Ext.app .refl,a,.inl (.inr ⟨h.length,0,by rw [hl],by rw [eH,show srB a 3 0=rowE encI 3 a 0 by unfold rowE;rw [flat_encI]];exact get_eq (by simp),Nat.le_refl _,by omega⟩),hp⟩
end Go.AM
namespace Go.AM
open Go.Proofs.Try
attribute [-go_sem] put_ne put_same
attribute [local go_sem ↓] put_if
theorem bstI_le {o out:List Int} {p:Nat} {B:Int} (hB:0≤B) (h:∀ q,out.getD q 0≤B):∀ {j},bstI o out p j≤B
 | 0=>by simpa [bstI] using hB
 | j+1=>by
  have:=bstI_le (o:=o) (p:=p) hB h (j:=j)
  have h2:=h (p+1+j)
  rw [bstI];split<;>omega
theorem getD_set' {l:List Int} {i j:Nat} {b:Int} (hi:i<l.length):(l.set i b).getD j 0=if i=j then b else l.getD j 0:=getD_setI hi
theorem rsN_bd {o:List Int}:∀ {k},k≤o.length→∀ q,0≤(rsN o k).getD q 0∧(rsN o k).getD q 0≤(k:Int)
 | 0,_,q=>by
  have:(rsN o 0).getD q 0=0:=by
   rw [rsN]
   by_cases h:q<o.length
   ·rw [List.getD_eq_getElem?_getD,List.getElem?_replicate,if_pos h];rfl
   ·rw [List.getD_eq_getElem?_getD,List.getElem?_replicate,if_neg h];rfl
  omega
 | k+1,hk,q=>by
  have ih:=rsN_bd (o:=o) (k:=k) (by omega)
  rw [rsN,getD_set' (by rw [rsN_len];omega)]
  split
  ·have h1:=bstI_le (o:=o) (out:=rsN o k) (p:=o.length-1-k) (B:=(k:Int)) (by omega) (fun q=>(ih q).2) (j:=k)
   have h2:=bstI_nn (o:=o) (out:=rsN o k) (p:=o.length-1-k) (j:=k)
   omega
  ·have:=ih q
   omega
theorem rsN_zero {o:List Int}:∀ {k p},k≤o.length→p<o.length-k→(rsN o k).getD p 0=0
 | 0,p,_,hp=>by rw [rsN,List.getD_eq_getElem?_getD,List.getElem?_replicate,if_pos (by omega)];rfl
 | k+1,p,hk,hp=>by
  rw [rsN,getD_set' (by rw [rsN_len];omega),if_neg (by omega)]
  exact rsN_zero (by omega) (by omega)
theorem set_same {l:List Int} {i:Nat} (hi:i<l.length):l.set i (l.getD i 0)=l:=by
 rw [getD_at hi];exact List.set_getElem_self hi
theorem bs2 {lit:Bool} {H:Heap} {a b:Int} (hl:lit=false):bsA prog lit H 25 2 [(0,.int .i64 a),(1,.int .i64 b)]=some (.slice (some ⟨H.length,0,0⟩) 2 2,H++[rowB [a,b] 0]):=by
 subst hl;simp [bsA,rowOf,Fc.el25,fillA,repCells,AVal.isN,AVal.cells,splice,rowB,ints]
set_option maxHeartbeats 2000000 in
theorem run_rises {base:Nat} {h:Heap} {v:AVal} {o:List Int} (hb:base≤h.length) (hI:Ints h v o) (h0:0<o.length) (hl:o.length≤1000) :
  Ret prog raw base (.fn 152 [] []) [v] h (fun w H=>Ext h H∧Own encI 3 h.length H w (rsA o)):=by
 have hv1:=hI.one
 have hlen:=lenI hI
 obtain ⟨n,en⟩:∃ n,n=o.length:=⟨_,rfl⟩
 have mk:makeSliceA prog h 25 (.int .i64 (o.length:Int)) (.int .i64 (o.length:Int))=some (.slice (some ⟨h.length,0,0⟩) o.length o.length,h++[srB (List.replicate o.length 0) 3 0]):=by
  rw [make_full Fc.el25 h0 (by omega),rep_zero]
 have hno:=lenI (hI.ext (.app (t:=[srB (List.replicate o.length 0) 3 0]) .refl))
 refine ret_raw func152 rfl (by kernel_rfl) ?_
 have hsp:=@Nat.succ_ne_zero;repeat' (first|simp (disch:=first|exact dqb|fail) only [go_sem,↓reduceIte,hsp,hlen,mk,hno]|refine WP_drw ?_|refine cnd_intro (fun hsp=>?_) fun hsp=>?_)
 refine WP_count [(4,51)] 0 o.length (Nat.zero_le _) (fun _ i fr H=>fr 4=.int .i64 ((o.length:Int)-1-(i:Int))∧Ext h H∧H[h.length]?=some (srB (rsN o i) 3 0)) ?_ ?_ ?_
 ·refine ⟨by rw [show (o.length:Int)-1-((0:Nat):Int)=(o.length:Int)-1 by omega];(simp (disch:=first|exact dqb|fail) only [go_sem,↓reduceIte,Int.natCast_zero];first|done|rfl),.app .refl,get_eq rfl⟩
 ·rintro i fr H hi0 hi hA ⟨r4,xH,gH⟩
  have p0:=hA 0 rfl
  have p2:=hA 2 rfl
  have p3:=hA 3 rfl
  try simp (disch:=first|exact dqb|fail) only [go_sem,↓reduceIte] at p0 p2 p3
  obtain ⟨p,ep⟩:∃ p,p=o.length-1-i:=⟨_,rfl⟩
  rw [show (o.length:Int)-1-(i:Int)=(p:Int) by omega] at r4
  have hge:((p:Int) ≥ 0)=True:=eq_true (by omega)
  have hsp:=@Nat.succ_ne_zero;repeat' (first|simp (disch:=first|exact dqb|fail) only [go_sem,↓reduceIte,hsp,r4,p0,p2,p3,hge]|refine WP_drw ?_|refine cnd_intro (fun hsp=>?_) fun hsp=>?_)
  refine WP_count [(5,45)] 0 i (Nat.zero_le _) (fun _ j fr K=>fr 5=.int .i64 ((p+1+j:Nat):Int)∧Ext h K∧K[h.length]?=some (srB ((rsN o i).set p (bstI o (rsN o i) p j)) 3 0)) ?_ ?_ ?_
  ·refine ⟨by (simp (disch:=first|exact dqb|fail) only [go_sem,↓reduceIte,Int.natCast_zero];first|done|rfl),xH,?_⟩
   have:=set_same (l:=rsN o i) (i:=p) (by rw [rsN_len];omega)
   rw [rsN_zero (by omega) (by omega)] at this
   rw [bstI,this];exact gH
  ·rintro j fr2 K hj0 hj hA2 ⟨r5,xK,gK⟩
   have d0:=hA2 0 rfl
   have d2:=hA2 2 rfl
   have d3:=hA2 3 rfl
   have d4:=hA2 4 rfl
   try simp (disch:=first|exact dqb|fail) only [go_sem,↓reduceIte,p0,p2,p3] at d0 d2 d3 d4
   have d4:=hA2 4 rfl
   simp (disch:=first|exact dqb|fail) only [go_sem,↓reduceIte,r4] at d4
   obtain ⟨q,eq⟩:∃ q,q=p+1+j:=⟨_,rfl⟩
   rw [← eq] at r5
   have hqn:q<o.length:=by omega
   have hIK:=hI.ext xK
   have hlK:=lenI hIK
   have hKl:=xK.len
   have hgK:=lt_of_get gK
   have hlt:((q:Int)<(o.length:Int))=True:=eq_true (by omega)
   have lq:=loadI hIK hqn
   have aq:=adrI (i:=(q:Int)) (by omega) hIK (by omega)
   have lp:=loadI hIK (show p<o.length by omega)
   have ap:=adrI (i:=(p:Int)) (by omega) hIK (by omega)
   rw [Int.toNat_natCast] at aq ap
   obtain ⟨b,eb⟩:∃ b,b=bstI o (rsN o i) p j:=⟨_,rfl⟩
   rw [← eb] at gK
   obtain ⟨m,em⟩:∃ m,m=(rsN o i).set p b:=⟨_,rfl⟩
   rw [← em] at gK
   have hml:m.length=o.length:=by rw [em,List.length_set,rsN_len]
   have mp:m.getD p 0=b:=by rw [em,getD_set' (by rw [rsN_len];omega),if_pos rfl]
   obtain ⟨x,ex⟩:∃ x,x=(rsN o i).getD q 0:=⟨_,rfl⟩
   have mq:m.getD q 0=x:=by rw [em,getD_set' (by rw [rsN_len];omega),if_neg (by omega),ex]
   have hbb:0≤b∧b≤1000:=by
    have h1:=bstI_le (o:=o) (out:=rsN o i) (p:=p) (B:=(i:Int)) (by omega) (fun q=>(rsN_bd (by omega) q).2) (j:=j)
    have h2:=bstI_nn (o:=o) (out:=rsN o i) (p:=p) (j:=j)
    omega
   have hxb:=rsN_bd (o:=o) (k:=i) (by omega) q
   have nxt:bstI o (rsN o i) p (j+1)=if o.getD q 0 > o.getD p 0 then max b x else b:=by rw [bstI,← eq,← eb,← ex]
   have hii:((q:Int)+1)=((p+1+(j+1):Nat):Int):=by omega
   have adr:∀ y:Nat,y<o.length→indexAddrA prog 25 (.slice (some ⟨h.length,0,0⟩) o.length o.length) (.int .i64 (y:Int))=some (.ptr (some ⟨h.length,0,y⟩)):=fun y hy=>by
    rw [adr_sl Fc.el25 Fc.ar25 (by omega) (by omega),Int.toNat_natCast,Nat.mul_one,Nat.zero_add]
   by_cases c:o.getD q 0 > o.getD p 0
   ·have t1:(o.getD q 0 > o.getD p 0)=True:=eq_true c
    rw [if_pos c] at nxt
    have a1:=adr p (by omega)
    have a2:=adr q hqn
    have d1:loadP prog K 3 (.ptr (some ⟨h.length,0,p⟩))=some (.int .i64 b):=by
     rw [load_eq,Fc.ty3,gK,← mp];exact ldB_ints (by omega)
    have d2:loadP prog K 3 (.ptr (some ⟨h.length,0,q⟩))=some (.int .i64 x):=by
     rw [load_eq,Fc.ty3,gK,← mq];exact ldB_ints (by omega)
    obtain ⟨G,eG⟩:∃ G,G=K++[rowB [b,x] 0]:=⟨_,rfl⟩
    have xG:Ext K G:=by rw [eG];exact .app .refl
    have gG:=xG.get gK
    have hG:=xG.len
    have hgr:=fun base=>run_greatest (base:=base) (h:=G) (v:=.slice (some ⟨K.length,0,0⟩) 2 2) (l:=[b,x]) (by rw [eG];exact slice_row rfl rfl ⟨by simp,fun y hy=>by simp at hy;omega⟩)
    rw [show grt [b,x]=max b x by unfold grt;simp only [List.foldl_cons,List.foldl_nil];omega] at hgr
    have st1:∀ {F:ABlk→Heap},stQ base h.length (some (srB m 3 0)) 0 p [.int .i64 (max b x)] F=some (F (srB (m.set p (max b x)) 3 0)):=fun {F}=>stQ_ints (by omega)
    have hsp:=@Nat.succ_ne_zero;repeat' (first|simp (disch:=first|exact dqb|fail) only [go_sem,↓reduceIte,hsp,r5,d4,d0,d2,d3,d4,p0,p2,p3,hlt,hlK,lq,aq,lp,ap,t1,a1,a2,d1,d2,bs2,← eG,hgr,gG,st1]|refine WP_drw ?_|refine cnd_intro (fun hsp=>?_) fun hsp=>?_)
    refine ⟨agq,by omega,(xK.trans xG).set (Nat.le_refl _),?_⟩
    rw [nxt,em,List.set_set]
   ·have t1:(o.getD q 0 > o.getD p 0)=False:=eq_false c
    rw [if_neg c] at nxt
    have hsp:=@Nat.succ_ne_zero;repeat' (first|simp (disch:=first|exact dqb|fail) only [go_sem,↓reduceIte,hsp,r5,d4,d0,d2,d3,d4,p0,p2,p3,hlt,hlK,lq,aq,lp,ap,t1]|refine WP_drw ?_|refine cnd_intro (fun hsp=>?_) fun hsp=>?_)
    refine ⟨agq,by omega,xK,?_⟩
    rw [nxt,← em];exact gK
  ·rintro fr2 K hA2 ⟨r5,xK,gK⟩
   have d0:=hA2 0 rfl
   have d2:=hA2 2 rfl
   have d3:=hA2 3 rfl
   have d4:=hA2 4 rfl
   try simp (disch:=first|exact dqb|fail) only [go_sem,↓reduceIte,p0,p2,p3] at d0 d2 d3 d4
   have d4:=hA2 4 rfl
   simp (disch:=first|exact dqb|fail) only [go_sem,↓reduceIte,r4] at d4
   have hIK:=hI.ext xK
   have hlK:=lenI hIK
   have hKl:=xK.len
   have hgK:=lt_of_get gK
   have hlt:(((p+1+i:Nat):Int)<(o.length:Int))=False:=eq_false (by omega)
   obtain ⟨b,eb⟩:∃ b,b=bstI o (rsN o i) p i:=⟨_,rfl⟩
   rw [← eb] at gK
   obtain ⟨m,em⟩:∃ m,m=(rsN o i).set p b:=⟨_,rfl⟩
   rw [← em] at gK
   have hml:m.length=o.length:=by rw [em,List.length_set,rsN_len]
   have mp:m.getD p 0=b:=by rw [em,getD_set' (by rw [rsN_len];omega),if_pos rfl]
   have hbb:0≤b∧b≤1000:=by
    have h1:=bstI_le (o:=o) (out:=rsN o i) (p:=p) (B:=(i:Int)) (by omega) (fun q=>(rsN_bd (by omega) q).2) (j:=i)
    have h2:=bstI_nn (o:=o) (out:=rsN o i) (p:=p) (j:=i)
    omega
   have a1:indexAddrA prog 25 (.slice (some ⟨h.length,0,0⟩) o.length o.length) (.int .i64 (p:Int))=some (.ptr (some ⟨h.length,0,p⟩)):=by
    rw [adr_sl Fc.el25 Fc.ar25 (by omega) (by omega),Int.toNat_natCast,Nat.mul_one,Nat.zero_add]
   have d1:loadP prog K 3 (.ptr (some ⟨h.length,0,p⟩))=some (.int .i64 b):=by
    rw [load_eq,Fc.ty3,gK,← mp];exact ldB_ints (by omega)
   have st1:∀ {F:ABlk→Heap},stQ base h.length (some (srB m 3 0)) 0 p [.int .i64 (b+1)] F=some (F (srB (m.set p (b+1)) 3 0)):=fun {F}=>stQ_ints (by omega)
   have hii:((p:Int)-1)=(o.length:Int)-1-((i+1:Nat):Int):=by omega
   have hsp:=@Nat.succ_ne_zero;repeat' (first|simp (disch:=first|exact dqb|fail) only [go_sem,↓reduceIte,hsp,r5,d4,d0,d2,d3,d4,p0,p2,p3,hlt,hlK,a1,d1,gK,st1]|refine WP_drw ?_|refine cnd_intro (fun hsp=>?_) fun hsp=>?_)
   refine ⟨agq,by omega,xK.set (Nat.le_refl _),?_⟩
   rw [em,List.set_set,rsN,← ep,← eb]
 ·rintro fr H hA ⟨r4,xH,gH⟩
  have p0:=hA 0 rfl
  have p2:=hA 2 rfl
  have p3:=hA 3 rfl
  try simp (disch:=first|exact dqb|fail) only [go_sem,↓reduceIte] at p0 p2 p3
  rw [show (o.length:Int)-1-(o.length:Int)=-1 by omega] at r4
  have hge:((-1:Int) ≥ 0)=False:=eq_false (by omega)
  have hsp:=@Nat.succ_ne_zero;repeat' (first|simp (disch:=first|exact dqb|fail) only [go_sem,↓reduceIte,hsp,r4,p0,p2,p3,hge]|refine WP_drw ?_|refine cnd_intro (fun hsp=>?_) fun hsp=>?_)
  refine ⟨xH,.inr ⟨h.length,0,by rw [rsA,rsN_len],?_,Nat.le_refl _,by rw [rsA,rsN_len];omega⟩⟩
  rw [gH,rowE,flat_encI];rfl
end Go.AM
namespace Go.AM
open Go.Proofs.Try
attribute [-go_sem] put_ne put_same
attribute [local go_sem ↓] put_if
theorem find_upto {f:Int→Bool} {n j:Nat} (hj:j<n) (h:∀ i,i<j→f (i:Int)=false) (hf:f (j:Int)=true):(upto n).find? f=some (j:Int):=by
 obtain ⟨y,h1,h2,h3,h4⟩:=find_first (f:=f) (upto_sorted n) (upto_mem.2 ⟨by omega,by omega⟩:(j:Int) ∈ upto n) hf
 rw [h1]
 rcases h4 with h4|h4
 ·rw [h4]
 ·exfalso
  obtain ⟨k,rfl⟩:=Int.eq_ofNat_of_zero_le (upto_mem.1 h2).1
  have:=h k (by simpa using h4)
  rw [h3] at this;cases this
theorem find_upto_no {f:Int→Bool} {n:Nat} (h:∀ i,i<n→f (i:Int)=false):(upto n).find? f=none:=by
 rw [List.find?_eq_none]
 intro x hx
 obtain ⟨k,rfl⟩:=Int.eq_ofNat_of_zero_le (upto_mem.1 hx).1
 rw [h k (by have:=(upto_mem.1 hx).2;omega)];simp
theorem nxtB_nil {o:List Int} {V:Nat→Int} {left p:Int}:nxtB o V [] left p=decide (V p.toNat=left):=by simp [nxtB]
theorem nxtB_at {o out:List Int} {V:Nat→Int} {left p:Int} (h:0<out.length):nxtB o V out left p=(decide (V p.toNat=left) && decide (out.getD (out.length-1) 0<p∧o.getD (out.getD (out.length-1) 0).toNat 0<o.getD p.toNat 0)):=by
 unfold nxtB
 rw [List.getLast?_eq_getElem?,getD_some (d:=0) (by omega)]
theorem riseF_none {o:List Int} {V:Nat→Int} {m:Nat} {out:List Int} (h:∀ i,i<o.length→nxtB o V out ((m+1:Nat):Int) (i:Int)=false):riseF o V (m+1) out=riseF o V m out:=by
 rw [riseF,riseS,find_upto_no h]
theorem riseF_some {o:List Int} {V:Nat→Int} {m j:Nat} {out:List Int} (hj:j<o.length) (h:∀ i,i<j→nxtB o V out ((m+1:Nat):Int) (i:Int)=false) (hf:nxtB o V out ((m+1:Nat):Int) (j:Int)=true):riseF o V (m+1) out=riseF o V m (out++[(j:Int)]):=by
 rw [riseF,riseS,find_upto hj h hf]
theorem rsA_len {o:List Int}:(rsA o).length=o.length:=rsN_len _
theorem rsA_bd {o:List Int} (q:Nat):0≤(rsA o).getD q 0∧(rsA o).getD q 0≤(o.length:Int):=rsN_bd (Nat.le_refl _) q
theorem rsA_small {o:List Int} (h:o.length≤1000):Small (rsA o):=by
 refine ⟨by rw [rsA_len];omega,fun x hx=>?_⟩
 obtain ⟨i,hi,rfl⟩:=List.mem_iff_getElem.1 hx
 have:=rsA_bd (o:=o) i
 rw [getD_at hi] at this
 omega
theorem grt_rsA {o:List Int} (h:o.length≤1000):0≤grt (rsA o)∧grt (rsA o)≤1000:=by
 refine ⟨grt_ge.1,?_⟩
 rcases grt_is (l:=rsA o) (a:=0) with q|q
 ·unfold grt;omega
 ·obtain ⟨i,hi,e⟩:=List.mem_iff_getElem.1 q
  have:=rsA_bd (o:=o) i
  rw [getD_at hi,e] at this
  unfold grt;omega
set_option maxHeartbeats 4000000 in
theorem run_rise {base:Nat} {h:Heap} {v:AVal} {o:List Int} (hb:base≤h.length) (hI:Ints h v o) (h0:0<o.length) (hl:o.length≤1000) :
  Ret prog raw base (.fn 89 [] []) [v] h (fun w H=>Ext h H∧Own encI 3 h.length H w (riseL o)):=by
 have hv1:=hI.one
 obtain ⟨w1,H1,e1,x1,o1⟩:=run_rises hb hI h0 hl
 have ho1:=o1.one
 have i1:=own_ints o1 (rsA_small hl)
 have hg:=fun base=>run_greatest (base:=base) i1
 have hl1:=x1.len
 have hgb:=grt_rsA hl
 obtain ⟨N,eN⟩:=Int.eq_ofNat_of_zero_le hgb.1
 rw [eN] at hg
 obtain ⟨V,eV⟩:∃ V:Nat→Int,V=fun p=>(rsA o).getD p 0:=⟨_,rfl⟩
 have hres:riseL o=riseF o V N []:=by unfold riseL;rw [eN,eV];rfl
 rw [hres]
 refine ret_raw func89 rfl (by kernel_rfl) ?_
 have hsp:=@Nat.succ_ne_zero;repeat' (first|simp (disch:=first|exact dqb|fail) only [go_sem,↓reduceIte,hsp,e1,hg]|refine WP_drw ?_|refine cnd_intro (fun hsp=>?_) fun hsp=>?_)
 refine WP_count [(4,61)] 0 N (Nat.zero_le _) (fun _ i fr K=>fr 5=.int .i64 ((N-i:Nat):Int)∧Ext H1 K∧∃ out w,fr 4=w∧Own encI 3 H1.length K w out∧(∀ a ∈ out,0≤a∧a<(o.length:Int))∧out.length≤i∧riseF o V N []=riseF o V (N-i) out) ?_ ?_ ?_
 ·exact ⟨by (simp (disch:=first|exact dqb|fail) only [go_sem,↓reduceIte,Int.natCast_zero];first|done|rfl),.refl,[],.slice none 0 0,by simp (disch:=first|exact dqb|fail) only [go_sem,↓reduceIte],Own.nil,fun a ha=>by simp at ha,Nat.le_refl _,rfl⟩
 ·rintro i fr K hi0 hi hA ⟨r5,xK,out,w,r4,hO,hin,hol,hF⟩
  have p0:=hA 0 rfl
  have p2:=hA 2 rfl
  have p3:=hA 3 rfl
  try simp (disch:=first|exact dqb|fail) only [go_sem,↓reduceIte] at p0 p2 p3
  obtain ⟨m,em⟩:∃ m,N-i=m+1:=⟨N-i-1,by omega⟩
  have em2:N-(i+1)=m:=by omega
  rw [em] at r5 hF
  have hgt:(((m+1:Nat):Int) > 0)=True:=eq_true (by omega)
  have iK:=i1.ext xK
  have lK:=lenI iK
  rw [rsA_len] at lK
  have hw1:=hO.one
  have hOs:Small out:=⟨by omega,fun a ha=>by have:=hin a ha;omega⟩
  have iO:=own_ints hO hOs
  have lO:=lenI iO
  have xh:=x1.trans xK
  have hIK:=hI.ext xh
  have hKl:=xK.len
  have hm1:(((m+1:Nat):Int)-1)=(m:Int):=by omega
  have hsp:=@Nat.succ_ne_zero;repeat' (first|simp (disch:=first|exact dqb|fail) only [go_sem,↓reduceIte,hsp,r5,r4,p0,p2,p3,hgt,lK]|refine WP_drw ?_|refine cnd_intro (fun hsp=>?_) fun hsp=>?_)
  refine WP_count [(4,4),(6,7),(18,61)] 0 o.length (Nat.zero_le _) (fun _ j fr H=>fr 18=.int .i64 (j:Int)∧fr 4=w∧H=K∧∀ i',i'<j→nxtB o V out ((m+1:Nat):Int) (i':Int)=false) ?_ ?_ ?_
  ·exact ⟨by (simp (disch:=first|exact dqb|fail) only [go_sem,↓reduceIte,Int.natCast_zero];first|done|rfl),by simp (disch:=first|exact dqb|fail) only [go_sem,↓reduceIte,r4],rfl,fun i' q=>by omega⟩
  ·rintro j fr2 K' hj0 hj hA2 ⟨r18,r4',eK,hno⟩
   subst eK
   have d0:=hA2 0 rfl
   have d2:=hA2 2 rfl
   have d3:=hA2 3 rfl
   have d5:=hA2 5 rfl
   have d16:=hA2 16 rfl
   have d17:=hA2 17 rfl
   try simp (disch:=first|exact dqb|fail) only [go_sem,↓reduceIte,p0,p2,p3] at d0 d2 d3 d5 d16 d17
   have d5:=hA2 5 rfl
   simp (disch:=first|exact dqb|fail) only [go_sem,↓reduceIte,r5] at d5
   have hlt:((j:Int)<(o.length:Int))=True:=eq_true (by omega)
   have lj:=loadI iK (i:=j) (by rw [rsA_len];exact hj)
   have aj:=adrI (i:=(j:Int)) (by omega) iK (by rw [rsA_len];omega)
   have lp:=loadI hIK hj
   have ap:=adrI (i:=(j:Int)) (by omega) hIK (by omega)
   rw [Int.toNat_natCast] at aj ap
   have hVj:V j=(rsA o).getD j 0:=by rw [eV]
   have hjj:((j:Int)+1)=((j+1:Nat):Int):=by omega
   obtain ⟨w',K2,ea,oW,lW,eW,oneW,kW⟩:=OwnE.snocI (base:=base) (x:=(j:Int)) (.inl hO) (by omega) (by omega) (by omega)
   have fin:nxtB o V out ((m+1:Nat):Int) (j:Int)=true→Ext H1 K2∧∃ out':List Int,∃ w2,w'=w2∧Own encI 3 H1.length K2 w2 out'∧(∀ a ∈ out',0≤a∧a<(o.length:Int))∧out'.length≤i+1∧riseF o V N []=riseF o V (N-(i+1)) out':=fun q=>by
    refine ⟨eW _ (Nat.le_refl _) xK,_,_,rfl,oW,fun a ha=>?_,by simp;omega,by rw [em2,hF,riseF_some hj hno q]⟩
    rcases List.mem_append.1 ha with ha|ha
    ·exact hin a ha
    ·simp at ha;omega
   have skip:nxtB o V out ((m+1:Nat):Int) (j:Int)=false→∀ i',i'<j+1→nxtB o V out ((m+1:Nat):Int) (i':Int)=false:=fun q i' hi'=>by
    by_cases e:i'=j
    ·rw [e];exact q
    ·exact hno i' (by omega)
   by_cases c1:(rsA o).getD j 0=((m+1:Nat):Int)
   ·have t1:((rsA o).getD j 0=((m+1:Nat):Int))=True:=eq_true c1
    by_cases c2:out=[]
    ·subst c2
     have t2:(((([]:List Int).length:Nat):Int)=0)=True:=eq_true rfl
     have hnx:nxtB o V [] ((m+1:Nat):Int) (j:Int)=true:=by rw [nxtB_nil,Int.toNat_natCast,hVj];exact decide_eq_true c1
     obtain ⟨f1,f2⟩:=fin hnx
     have hsp:=@Nat.succ_ne_zero;repeat' (first|simp (disch:=first|exact dqb|fail) only [go_sem,↓reduceIte,hsp,r18,r4',d5,d0,d2,d3,d5,d16,d17,p0,p2,p3,hlt,lj,aj,lp,ap,t1,lO,t2,ea]|refine WP_drw ?_|refine cnd_intro (fun hsp=>?_) fun hsp=>?_)
     exact ⟨agq,by rw [em2];omega,f1,f2⟩
    ·have hpos:0<out.length:=by cases out with|nil=>exact absurd rfl c2|cons a b=>simp
     have t2:((out.length:Int)=0)=False:=eq_false (by omega)
     obtain ⟨a,ea'⟩:∃ a,a=out.getD (out.length-1) 0:=⟨_,rfl⟩
     have hab:=hin a (by rw [ea'];exact getD_mem (by omega))
     have t3:((out.length:Int)-1)=((out.length-1:Nat):Int):=by omega
     have al:=adrI (i:=((out.length-1:Nat):Int)) (by omega) iO (by omega)
     rw [Int.toNat_natCast] at al
     have ll:=loadI iO (i:=out.length-1) (by omega)
     rw [← ea'] at ll
     have aa:=adrI (i:=a) (by omega) hIK (by omega)
     have la:=loadI hIK (i:=a.toNat) (by omega)
     have hnx:=nxtB_at (o:=o) (V:=V) (left:=((m+1:Nat):Int)) (p:=(j:Int)) hpos
     rw [← ea',Int.toNat_natCast,hVj,decide_eq_true c1,Bool.true_and] at hnx
     by_cases c3:(j:Int) > a
     ·have t4:((j:Int) > a)=True:=eq_true c3
      by_cases c4:o.getD j 0 > o.getD a.toNat 0
      ·have t5:(o.getD j 0 > o.getD a.toNat 0)=True:=eq_true c4
       obtain ⟨f1,f2⟩:=fin (by rw [hnx];exact decide_eq_true ⟨c3,c4⟩)
       have hsp:=@Nat.succ_ne_zero;repeat' (first|simp (disch:=first|exact dqb|fail) only [go_sem,↓reduceIte,hsp,r18,r4',d5,d0,d2,d3,d5,d16,d17,p0,p2,p3,hlt,lj,aj,lp,ap,t1,lO,t2,t3,al,ll,aa,la,t4,t5,ea]|refine WP_drw ?_|refine cnd_intro (fun hsp=>?_) fun hsp=>?_)
       exact ⟨agq,by rw [em2];omega,f1,f2⟩
      ·have t5:(o.getD j 0 > o.getD a.toNat 0)=False:=eq_false c4
       have s1:=skip (by rw [hnx];exact decide_eq_false (fun q=>c4 q.2))
       have hsp:=@Nat.succ_ne_zero;repeat' (first|simp (disch:=first|exact dqb|fail) only [go_sem,↓reduceIte,hsp,r18,r4',d5,d0,d2,d3,d5,d16,d17,p0,p2,p3,hlt,lj,aj,lp,ap,t1,lO,t2,t3,al,ll,aa,la,t4,t5]|refine WP_drw ?_|refine cnd_intro (fun hsp=>?_) fun hsp=>?_)
       exact ⟨agq,by omega,s1⟩
     ·have t4:((j:Int) > a)=False:=eq_false c3
      have s1:=skip (by rw [hnx];exact decide_eq_false (fun q=>c3 q.1))
      have hsp:=@Nat.succ_ne_zero;repeat' (first|simp (disch:=first|exact dqb|fail) only [go_sem,↓reduceIte,hsp,r18,r4',d5,d0,d2,d3,d5,d16,d17,p0,p2,p3,hlt,lj,aj,lp,ap,t1,lO,t2,t3,al,ll,aa,la,t4]|refine WP_drw ?_|refine cnd_intro (fun hsp=>?_) fun hsp=>?_)
      exact ⟨agq,by omega,s1⟩
   ·have t1:((rsA o).getD j 0=((m+1:Nat):Int))=False:=eq_false c1
    have s1:=skip (by unfold nxtB;rw [Int.toNat_natCast,hVj,decide_eq_false c1];rfl)
    have hsp:=@Nat.succ_ne_zero;repeat' (first|simp (disch:=first|exact dqb|fail) only [go_sem,↓reduceIte,hsp,r18,r4',d5,d0,d2,d3,d5,d16,d17,p0,p2,p3,hlt,lj,aj,lp,ap,t1]|refine WP_drw ?_|refine cnd_intro (fun hsp=>?_) fun hsp=>?_)
    exact ⟨agq,by omega,s1⟩
  ·rintro fr2 K' hA2 ⟨r18,r4',eK,hno⟩
   subst eK
   have d0:=hA2 0 rfl
   have d2:=hA2 2 rfl
   have d3:=hA2 3 rfl
   have d5:=hA2 5 rfl
   have d16:=hA2 16 rfl
   have d17:=hA2 17 rfl
   try simp (disch:=first|exact dqb|fail) only [go_sem,↓reduceIte,p0,p2,p3] at d0 d2 d3 d5 d16 d17
   have d5:=hA2 5 rfl
   simp (disch:=first|exact dqb|fail) only [go_sem,↓reduceIte,r5] at d5
   have hlt:((o.length:Int)<(o.length:Int))=False:=eq_false (by omega)
   have hsp:=@Nat.succ_ne_zero;repeat' (first|simp (disch:=first|exact dqb|fail) only [go_sem,↓reduceIte,hsp,r18,r4',d5,d0,d2,d3,d5,d16,d17,p0,p2,p3,hlt]|refine WP_drw ?_|refine cnd_intro (fun hsp=>?_) fun hsp=>?_)
   exact ⟨agq,by rw [em2];omega,xK,out,w,rfl,hO,hin,by omega,by rw [em2,hF,riseF_none hno]⟩
 ·rintro fr K hA ⟨r5,xK,out,w,r4,hO,hin,hol,hF⟩
  have p0:=hA 0 rfl
  have p2:=hA 2 rfl
  have p3:=hA 3 rfl
  try simp (disch:=first|exact dqb|fail) only [go_sem,↓reduceIte] at p0 p2 p3
  rw [Nat.sub_self] at r5 hF
  rw [Int.natCast_zero] at r5
  have hw1:=hO.one
  have hgt:((0:Int) > 0)=False:=eq_false (by omega)
  have hsp:=@Nat.succ_ne_zero;repeat' (first|simp (disch:=first|exact dqb|fail) only [go_sem,↓reduceIte,hsp,r5,r4,p0,p2,p3,hgt]|refine WP_drw ?_|refine cnd_intro (fun hsp=>?_) fun hsp=>?_)
  refine ⟨x1.trans xK,?_⟩
  rw [hF,riseF]
  exact hO.low hl1
def risE (o:List Int):List Int × Int:=if aloL o=0 then (riseL o,0) else ([],aloL o)
theorem run_Rise {base:Nat} {h:Heap} {v:AVal} {o:List Int} (hb:base≤h.length) (hI:Ints h v o) :
  Ret prog raw base (.fn 23 [] []) [v] h (fun w H=>Ext h H∧∃ x,w=.tuple [x,.int .i64 (risE o).2]∧Own encI 3 h.length H x (risE o).1):=by
 have ha:=fun base=>run_alone (base:=base) hI
 by_cases c:aloL o=0
 ·obtain ⟨c1,c2,c3⟩:=aloL_iff.1 c
  obtain ⟨w1,H1,e1,x1,o1⟩:=run_rise hb hI (by omega) (by omega)
  have ho1:=o1.one
  rw [c] at ha
  have r:risE o=(riseL o,0):=by unfold risE;rw [if_pos c]
  rw [r]
  have hl1:=x1.len
  refine ret_raw func23 rfl (by kernel_rfl) ?_
  have hsp:=@Nat.succ_ne_zero;repeat' (first|simp (disch:=first|exact dqb|fail) only [go_sem,↓reduceIte,hsp,ha,eq_self,e1]|refine WP_drw ?_|refine cnd_intro (fun hsp=>?_) fun hsp=>?_)
  exact ⟨x1,_,rfl,o1⟩
 ·have t1:(aloL o=0)=False:=eq_false c
  have r:risE o=([],aloL o):=by unfold risE;rw [if_neg c]
  rw [r]
  refine ret_raw func23 rfl (by kernel_rfl) ?_
  have hsp:=@Nat.succ_ne_zero;repeat' (first|simp (disch:=first|exact dqb|fail) only [go_sem,↓reduceIte,hsp,ha,t1]|refine WP_drw ?_|refine cnd_intro (fun hsp=>?_) fun hsp=>?_)
  exact ⟨.refl,_,rfl,Own.nil⟩
end Go.AM
namespace Go.AM
open Go.Proofs.Try
theorem sl_from {id ver o n k:Nat} {lo:Int} (h0:0≤lo) (h1:lo≤n) (h2:n≤k):sliceA prog 25 (.slice (some ⟨id,ver,o⟩) n k) (some (.int .i64 lo)) none none=some (.slice (some ⟨id,ver,o+lo.toNat⟩) (n-lo.toNat) (k-lo.toNat)):=by
 have e1:lo≤(n:Int):=h1
 simp [sliceA,Fc.ar25,Fc.el25,optB,boundA,ARef.add,h0,e1]
theorem sl_to {id ver o n k:Nat} {hi:Int} (h0:0≤hi) (h1:hi≤k):sliceA prog 25 (.slice (some ⟨id,ver,o⟩) n k) none (some (.int .i64 hi)) none=some (.slice (some ⟨id,ver,o⟩) hi.toNat k):=by
 have e1:hi≤(k:Int):=h1
 simp [sliceA,Fc.ar25,Fc.el25,optB,boundA,ARef.add,h0,e1]
def nodup (l:List Int):Prop:=∀ i,i<l.length→0<i→l.getD i 0 ≠ l.getD (i-1) 0
def riseB (l:List Int):Bool:=decide (∀ i,i<l.length→0<i→l.getD (i-1) 0<l.getD i 0)
end Go.AM
namespace Go.AM
theorem splice_mid:∀ (vs pre c d:List AVal),c.length=vs.length→splice (pre++c++d) pre.length vs=pre++vs++d
 | [],pre,c,d,h=>by rw [List.eq_nil_of_length_eq_zero h];rfl
 | v :: vs,pre,[],d,h=>by simp at h
 | v :: vs,pre,x :: c,d,h=>by
  have:=splice_mid vs (pre++[v]) c d (by simpa using h)
  rw [splice]
  rw [show (pre++x :: c++d).set pre.length v=pre++[v]++c++d by simp]
  rw [show pre.length+1=(pre++[v]).length by simp,this]
  simp
end Go.AM
namespace Go.AM
open Go.Proofs.Try
attribute [-go_sem] put_ne put_same
attribute [local go_sem ↓] put_if
section
variable {base id ver:Nat} {h:Heap} {m:List Int}
abbrev iB (m:List Int) (ver:Nat):ABlk:=srB m 3 ver
theorem stI {o:Nat} {z:List Int} (hg:h[id]?=some (iB m ver)) (hb:base≤id) (ho:o+z.length≤m.length):storeN base h ⟨id,ver,o⟩ (ints z)=some (h.set id (iB (m.take o++z++m.drop (o+z.length)) ver)):=by
 have e:ints m=ints (m.take o)++ints ((m.drop o).take z.length)++ints (m.drop (o+z.length)):=by
  rw [ints_app,ints_app]
  congr 1
  rw [List.append_assoc,← List.drop_drop,List.take_append_drop,List.take_append_drop]
 have h1:=splice_mid (ints z) (ints (m.take o)) (ints ((m.drop o).take z.length)) (ints (m.drop (o+z.length))) (by simp [ints];omega)
 rw [← e,ints_app,ints_app,show (ints (m.take o)).length=o by simp [ints];omega] at h1
 unfold storeN
 simp only [hg]
 rw [if_pos ⟨trivial,by simp only [ints_length];omega,ints_scalar _,.inl hb⟩,h1]
theorem ldI {o n a b:Nat} (hg:h[id]?=some (iB m ver)) (ho:o+n≤m.length):firstN h 1 n (.slice (some ⟨id,ver,o⟩) a b)=some (ints ((m.drop o).take n)):=by
 simp only [firstN,loadN,cellsAt,hg,Nat.mul_one,if_true]
 rw [if_pos (by simp only [ints_length];omega)]
 simp [ints,List.map_take,List.map_drop]
theorem sl_two {o n k:Nat} {lo hi:Int} (h0:0≤lo) (h1:lo≤hi) (h2:hi≤k):sliceA prog 25 (.slice (some ⟨id,ver,o⟩) n k) (some (.int .i64 lo)) (some (.int .i64 hi)) none=some (.slice (some ⟨id,ver,o+lo.toNat⟩) (hi.toNat-lo.toNat) (k-lo.toNat)):=by
 simp only [sliceA,Fc.ar25,Fc.el25,optB,boundI (show 0≤hi by omega) h2,boundI h0 (show lo≤(hi.toNat:Int) by omega)]
 simp [ARef.add]
theorem sl_three {o n k:Nat} {lo hi mx:Int} (h0:0≤lo) (h1:lo≤hi) (h2:hi≤mx) (h3:mx≤k):∃ v,sliceA prog 25 (.slice (some ⟨id,ver,o⟩) n k) (some (.int .i64 lo)) (some (.int .i64 hi)) (some (.int .i64 mx))=some v:=by
 simp only [sliceA,Fc.ar25,Fc.el25,optB,boundI (show 0≤mx by omega) h3,boundI (show 0≤hi by omega) (show hi≤(mx.toNat:Int) by omega),boundI h0 (show lo≤(hi.toNat:Int) by omega)]
 exact ⟨_,rfl⟩
theorem er_take {l:List Int} {i:Nat}:l.eraseIdx i=l.take i++l.drop (i+1):=List.eraseIdx_eq_take_drop_succ l i
theorem run_delete {l:List Int} {i:Nat} (hg:h[id]?=some (iB l ver)) (hb:base≤id) (hi:i<l.length) (hl:l.length≤1000) :
  Ret prog raw base (.fn 136 [] []) [.slice (some ⟨id,ver,0⟩) l.length l.length,.int .i64 (i:Int),.int .i64 ((i:Int)+1)] h (fun w H=>w=.slice (some ⟨id,ver,0⟩) (l.length-1) l.length∧H=h.set id (iB (l.eraseIdx i++[0]) ver)):=by
 obtain ⟨n,en⟩:∃ n,l.length=n:=⟨_,rfl⟩
 rw [en] at hi hl ⊢
 have hid:=lt_of_get hg
 obtain ⟨v3,e3⟩:=sl_three (id:=id) (ver:=ver) (o:=0) (n:=n) (k:=n) (lo:=(i:Int)) (hi:=(i:Int)+1) (mx:=(n:Int)) (by omega) (by omega) (by omega) (by omega)
 have t1:((i:Int)=(i:Int)+1)=False:=eq_false (by omega)
 have s1:=sl_to (id:=id) (ver:=ver) (o:=0) (n:=n) (k:=n) (hi:=(i:Int)) (by omega) (by omega)
 have s2:=sl_from (id:=id) (ver:=ver) (o:=0) (n:=n) (k:=n) (lo:=(i:Int)+1) (by omega) (by omega) (by omega)
 rw [Int.toNat_natCast] at s1
 rw [show ((i:Int)+1).toNat=i+1 by omega,Nat.zero_add] at s2
 obtain ⟨m,em⟩:∃ m,m=l.eraseIdx i++l.drop (n-1):=⟨_,rfl⟩
 have hel:(l.eraseIdx i).length=n-1:=by rw [List.length_eraseIdx,if_pos (by omega)];omega
 have hml:m.length=n:=by rw [em,List.length_append,hel,List.length_drop];omega
 have hap:appendA prog base h 25 (.slice (some ⟨id,ver,0⟩) i n) (.slice (some ⟨id,ver,i+1⟩) (n-(i+1)) (n-(i+1)))=some (.slice (some ⟨id,ver,0⟩) (n-1) n,h.set id (iB m ver)):=by
  simp only [appendA,Fc.el25,lenA,ldI (o:=i+1) (n:=n-(i+1)) hg (by omega),ints_scalar,if_true]
  rw [if_pos (by omega)]
  have:(ARef.mk id ver 0).add (i * 1)=⟨id,ver,i⟩:=by simp [ARef.add]
  rw [this,List.take_of_length_le (by simp;omega),stI hg hb (by simp;omega)]
  simp only [List.length_drop,en]
  rw [show i+(n-(i+1))=n-1 by omega,← er_take,em]
 obtain ⟨G,eG⟩:∃ G,G=h.set id (iB m ver):=⟨_,rfl⟩
 rw [← eG] at hap
 have gG:G[id]?=some (iB m ver):=by rw [eG,List.getElem?_set_self hid]
 have s3:=sl_two (id:=id) (ver:=ver) (o:=0) (n:=n-1) (k:=n) (lo:=((n-1:Nat):Int)) (hi:=(n:Int)) (by omega) (by omega) (by omega)
 rw [Int.toNat_natCast,Int.toNat_natCast,Nat.zero_add,show n-(n-1)=1 by omega] at s3
 have hcl:clearA prog base G 25 (.slice (some ⟨id,ver,n-1⟩) 1 1)=some (.tuple [],G.set id (iB (l.eraseIdx i++[0]) ver)):=by
  have hs:=stI (z:=[0]) (o:=n-1) gG hb (by simp;omega)
  have hr:repCells [AVal.int .i64 0] (0+1)=ints [0]:=rfl
  have e:m.take (n-1)++[0]++m.drop (n-1+[(0:Int)].length)=l.eraseIdx i++[0]:=by
   rw [em,List.take_left' hel,List.drop_of_length_le (by simp [hel];omega),List.append_nil]
  rw [e] at hs
  simp only [clearA,Fc.el25,hr,hs]
 refine ret_raw func136 rfl (by kernel_rfl) ?_
 have hsp:=@Nat.succ_ne_zero;repeat' (first|simp (disch:=first|exact dqb|fail) only [go_sem,↓reduceIte,hsp,e3,t1,s1,s2,hap,s3,hcl]|refine WP_drw ?_|refine cnd_intro (fun hsp=>?_) fun hsp=>?_)
 rw [eG,List.set_set]
theorem run_insert {id2:Nat} {r:List Int} {t:Nat} {x z:Int} (hg:h[id]?=some (iB (r++[z]) ver)) (hg2:h[id2]?=some (rowB [x] 0)) (hne:id2 ≠ id) (hb:base≤id) (ht:t≤r.length) (hl:r.length≤1000) :
  Ret prog raw base (.fn 140 [] []) [.slice (some ⟨id,ver,0⟩) r.length (r.length+1),.int .i64 (t:Int),.slice (some ⟨id2,0,0⟩) 1 1] h (fun w H=>w=.slice (some ⟨id,ver,0⟩) (r.length+1) (r.length+1)∧H=h.set id (iB (r.insertIdx t x) ver)):=by
 obtain ⟨k,ek⟩:∃ k,r.length=k:=⟨_,rfl⟩
 rw [ek] at ht hl ⊢
 have hq:(insQ f140 [.slice (some ⟨id,ver,0⟩) k (k+1),.int .i64 (t:Int),.slice (some ⟨id2,0,0⟩) 1 1] || srtQ f140 [.slice (some ⟨id,ver,0⟩) k (k+1),.int .i64 (t:Int),.slice (some ⟨id2,0,0⟩) 1 1])=false:=by
  rw [Bool.or_eq_false_iff]
  exact ⟨by unfold insQ;simp,by unfold srtQ;simp⟩
 have hid:=lt_of_get hg
 have s1:=sl_from (id:=id) (ver:=ver) (o:=0) (n:=k) (k:=k+1) (lo:=(t:Int)) (by omega) (by omega) (by omega)
 rw [Int.toNat_natCast,Nat.zero_add] at s1
 have hI2:Ints h (.slice (some ⟨id2,0,0⟩) 1 1) [x]→True:=fun _=>trivial
 have n1:∀ {H:Heap},lenOpA prog H 25 (.slice (some ⟨id2,0,0⟩) 1 1)=some (.int .i64 1):=fun {H}=>by simp [lenOpA,Fc.el25,lenA]
 have n2:∀ {H:Heap} {q:Nat},lenOpA prog H 25 (.slice (some ⟨id,ver,0⟩) k q)=some (.int .i64 (k:Int)):=fun {H q}=>by simp [lenOpA,Fc.el25,lenA]
 have t0:((1:Int)=0)=False:=eq_false (by omega)
 have l2:∀ {H:Heap},H[id2]?=some (rowB [x] 0)→firstN H 1 1 (.slice (some ⟨id2,0,0⟩) 1 1)=some (ints [x]):=fun {H} hg=>by
  have:=ldI (h:=H) (id:=id2) (ver:=0) (m:=[x]) (o:=0) (n:=1) (a:=1) (b:=1) hg (by simp)
  simpa using this
 by_cases c:t=k
 ·have t1:((t:Int)=(k:Int))=True:=eq_true (by omega)
  have hap:appendA prog base h 25 (.slice (some ⟨id,ver,0⟩) k (k+1)) (.slice (some ⟨id2,0,0⟩) 1 1)=some (.slice (some ⟨id,ver,0⟩) (k+1) (k+1),h.set id (iB (r.insertIdx t x) ver)):=by
   simp only [appendA,Fc.el25,lenA,l2 hg2,ints_scalar,if_true]
   rw [if_pos (by omega)]
   have:(ARef.mk id ver 0).add (k * 1)=⟨id,ver,k⟩:=by simp [ARef.add]
   rw [this,stI hg hb (by simp;omega)]
   simp only
   rw [List.take_left' ek,List.drop_of_length_le (by simp;omega),List.append_nil,c,← ek,List.insertIdx_length_self]
  refine ret_rawQ func140 rfl (by kernel_rfl) ?_ hq
  have hsp:=@Nat.succ_ne_zero;repeat' (first|simp (disch:=first|exact dqb|fail) only [go_sem,↓reduceIte,hsp,s1,n1,n2,t0,t1,hap]|refine WP_drw ?_|refine cnd_intro (fun hsp=>?_) fun hsp=>?_)
 ·have t1:((t:Int)=(k:Int))=False:=eq_false (by omega)
  have hcp:=fun m=>cap_slice (P:=prog) Fc.el25 (r:=some ⟨id,ver,0⟩) (m:=m) (k:=k+1)
  have hkk:((k:Int)+1)=((k+1:Nat):Int):=by omega
  have htt:((t:Int)+1)=((t+1:Nat):Int):=by omega
  have hroom:binA prog .gtr 3 (.int .i64 ((k+1:Nat):Int)) (.atl (k+1))=some (.bool false):=bin_room (by omega)
  have s2:=sl_to (id:=id) (ver:=ver) (o:=0) (n:=k) (k:=k+1) (hi:=((k+1:Nat):Int)) (by omega) (by omega)
  have s3:=sl_from (id:=id) (ver:=ver) (o:=0) (n:=k+1) (k:=k+1) (lo:=((t+1:Nat):Int)) (by omega) (by omega) (by omega)
  have s4:=sl_from (id:=id) (ver:=ver) (o:=0) (n:=k+1) (k:=k+1) (lo:=(t:Int)) (by omega) (by omega) (by omega)
  rw [Int.toNat_natCast] at s2
  rw [Int.toNat_natCast,Nat.zero_add] at s3 s4
  obtain ⟨inf,einf⟩:=Option.isSome_iff_exists.1 (show (prog.info? 3).isSome=true by kernel_rfl)
  have hov:callL prog raw base (.fn 166 [] []) [.slice (some ⟨id2,0,0⟩) 1 1,.slice (some ⟨id,ver,t+1⟩) (k+1-(t+1)) (k+1-(t+1))] h=some (.bool false,h) :=
   callL_ovl (fn:=f166) (by kernel_rfl) (by kernel_rfl) ⟨by kernel_rfl,by kernel_rfl,25,4,3,inf,by kernel_rfl,by kernel_rfl,einf⟩ hne (by omega) (by omega) (offOk_of hg2 (by simp [ints])) (offOk_of hg (by simp [ints];omega))
  obtain ⟨m,em⟩:∃ m,m=r.take (t+1)++r.drop t:=⟨_,rfl⟩
  have hml:m.length=k+1:=by rw [em];simp;omega
  have hc1:copyA prog base h 25 (.slice (some ⟨id,ver,t+1⟩) (k+1-(t+1)) (k+1-(t+1))) (.slice (some ⟨id,ver,t⟩) (k+1-t) (k+1-t))=some (.int .i64 ((k-t:Nat):Int),h.set id (iB m ver)):=by
   have hmin:min (k+1-t) (k+1-(t+1))=k-t:=by omega
   have hd:((r++[z]).drop t).take (k-t)=r.drop t:=by
    rw [List.drop_append_of_le_length (by omega),List.take_left' (by simp;omega)]
   have e:(r++[z]).take (t+1)++r.drop t++(r++[z]).drop (t+1+(r.drop t).length)=m:=by
    rw [List.take_append_of_le_length (by omega),List.drop_of_length_le (i:=t+1+(r.drop t).length) (by simp;omega),List.append_nil,em]
   simp only [copyA,Fc.el25,lenA,hmin,ldI (o:=t) (n:=k-t) hg (by simp;omega),hd,stI (o:=t+1) (z:=r.drop t) hg hb (by simp;omega),e]
  obtain ⟨G,eG⟩:∃ G,G=h.set id (iB m ver):=⟨_,rfl⟩
  rw [← eG] at hc1
  have gG:G[id]?=some (iB m ver):=by rw [eG,List.getElem?_set_self hid]
  have g2:G[id2]?=some (rowB [x] 0):=by rw [eG,List.getElem?_set_ne (by omega)];exact hg2
  have hc2:copyA prog base G 25 (.slice (some ⟨id,ver,t⟩) (k+1-t) (k+1-t)) (.slice (some ⟨id2,0,0⟩) 1 1)=some (.int .i64 ((1:Nat):Int),G.set id (iB (r.insertIdx t x) ver)):=by
   have hmin:min 1 (k+1-t)=1:=by omega
   have e:m.take t++[x]++m.drop (t+[x].length)=r.insertIdx t x:=by
    rw [ins_eq (by omega),em,List.take_append_of_le_length (by simp;omega),List.take_take,Nat.min_eq_left (by omega),show t+[x].length=(r.take (t+1)).length by simp;omega,List.drop_left]
    simp
   simp only [copyA,Fc.el25,lenA,hmin,l2 g2,stI (o:=t) (z:=[x]) gG hb (by simp;omega),e]
  refine ret_rawQ func140 rfl (by kernel_rfl) ?_ hq
  have hsp:=@Nat.succ_ne_zero;repeat' (first|simp (disch:=first|exact dqb|fail) only [go_sem,↓reduceIte,hsp,s1,n1,n2,t0,t1,hcp,hkk,htt,hroom,s2,s3,s4,hov,hc1,hc2]|refine WP_drw ?_|refine cnd_intro (fun hsp=>?_) fun hsp=>?_)
  rw [eG,List.set_set]
end
end Go.AM
namespace Go.AM
open Go.Proofs.Try
attribute [-go_sem] put_ne put_same
attribute [local go_sem ↓] put_if
theorem OwnE.pos {α:Type} {E:Enc α} {e b:Nat} {H:Heap} {v:AVal} {l:List α} (x:OwnE E e b H v l) (h:0<l.length):∃ id ver,v=.slice (some ⟨id,ver,0⟩) l.length l.length∧H[id]?=some (rowE E e l ver)∧b≤id:=by
 rcases x with (⟨_,rfl⟩|⟨id,ver,h1,h2,h3,_⟩)|⟨_,rfl⟩
 ·simp at h
 ·exact ⟨id,ver,h1,h2,h3⟩
 ·simp at h
theorem rowE_iB {l:List Int} {ver:Nat}:rowE encI 3 l ver=iB l ver:=by rw [rowE,flat_encI]
abbrev mvB (f t:Int):ABlk:=⟨.cells [.int .i64 f,.int .i64 t] 36 false false,0⟩
theorem stL6 {base:Nat} {l:List Oper} {s:St} {Q:AExit→St→Prop}:WP prog raw base (.region 2 l.toArray true) s Q=WPS prog raw base (.region 2 l.toArray true) s Q:=WP_stop
attribute [local go_sem ↓ 3000] stL6
set_option maxHeartbeats 2000000 in
theorem run_made {base:Nat} {h:Heap} {v:AVal} {o:List Int} {f t:Nat} (hb:base≤h.length) (hI:Ints h v o) (hl:o.length≤1000) (hf:f<o.length) (ht:t<o.length) :
  Ret prog raw base (.fn 94 [] []) [v,.agg [.int .i64 (f:Int),.int .i64 (t:Int)]] h (fun w H=>Ext h H∧Own encI 3 h.length H w (mvL o f t)):=by
 have hv1:=hI.one
 obtain ⟨G,eG⟩:∃ G,G=h++[mvB f t]:=⟨_,rfl⟩
 have xG:Ext h G:=by rw [eG];exact .app .refl
 have gm:G[h.length]?=some (mvB f t):=by rw [eG];exact get_eq rfl
 have hGl:G.length=h.length+1:=by rw [eG];simp
 have hIG:=hI.ext xG
 have lf:=loadI hIG hf
 have af:=adrI (i:=(f:Int)) (by omega) hIG (by omega)
 rw [Int.toNat_natCast] at af
 obtain ⟨v1,H1,e1,x1,o1⟩:=run_cloneE (base:=base) hIG (small_ints hI (by omega))
 obtain ⟨id,ver,rfl,g1,hid⟩:=o1.pos (by omega)
 rw [rowE_iB] at g1
 have hl1:=x1.len
 have hidl:=lt_of_get g1
 obtain ⟨w2,H2,e2,rfl,eH2⟩:=run_delete (base:=base) (i:=f) g1 (by omega) hf hl
 have hH2l:H2.length=H1.length:=by rw [eH2,List.length_set]
 have g2:H2[id]?=some (iB (o.eraseIdx f++[0]) ver):=by rw [eH2,List.getElem?_set_self hidl]
 obtain ⟨k,ek⟩:∃ k,k=o.getD f 0:=⟨_,rfl⟩
 rw [← ek] at lf
 obtain ⟨H3,eH3⟩:∃ H3,H3=H2++[rowB [k] 0]:=⟨_,rfl⟩
 have x3:Ext H2 H3:=by rw [eH3];exact .app .refl
 have g3:H3[H2.length]?=some (rowB [k] 0):=by rw [eH3];exact get_eq rfl
 have hel:(o.eraseIdx f).length=o.length-1:=by rw [List.length_eraseIdx,if_pos hf]
 obtain ⟨w4,H4,e4,rfl,eH4⟩:=run_insert (base:=base) (t:=t) (x:=k) (x3.get g2) g3 (by omega) (by omega) (by omega) (by omega)
 rw [hel,show o.length-1+1=o.length by omega] at e4
 have hsm:0≤k ∨ k<0:=by omega
 have gm1:=x1.get gm
 have gm2:H2[h.length]?=some (mvB f t):=by rw [eH2,List.getElem?_set_ne (by omega)];exact gm1
 have gm3:=x3.get gm2
 have gm4:H4[h.length]?=some (mvB f t):=by rw [eH4,List.getElem?_set_ne (by omega)];exact gm3
 unfold mvB at eG gm gm1 gm2 gm3 gm4
 refine ret_raw func94 rfl (by kernel_rfl) ?_
 have hsp:=@Nat.succ_ne_zero;repeat' (first|simp (disch:=first|exact dqb|fail) only [go_sem,↓reduceIte,hsp,← eG,gm,af,lf]|refine WP_drw ?_|refine cnd_intro (fun hsp=>?_) fun hsp=>?_)
 refine WPS_go ?_
 refine WP_wild [⟨3,3,13,⟨h.length,0,0⟩,.int .i64 (f:Int),7⟩,⟨5,3,15,⟨h.length,0,0⟩,.int .i64 (f:Int),7⟩,⟨9,3,19,⟨h.length,0,1⟩,.int .i64 (t:Int),12⟩] (by kernel_rfl) (by kernel_rfl) (by kernel_rfl) ⟨refsLow_int,refsLow_int,refsLow_int,trivial⟩ fun K hK=>?_
 iterate 14
  rw [TRS_cons]
  refine ⟨by first|(simp (disch:=first|exact dqb|fail) only [go_sem,↓reduceIte,gm,gm1,gm2,gm3,gm4,e1,e2,← eH3,e4,ldsQ_cons,ldsQ_nil,grdQ_cons,grdQ_nil,if_true,Nat.reduceLeDiff];done)|exact trivial,?_⟩
  simp (disch:=first|exact dqb|fail) only [go_sem,↓reduceIte,gm,gm1,gm2,gm3,gm4,e1,e2,← eH3,e4]
 rw [TRS_nil]
 refine ⟨by first|(simp (disch:=first|exact dqb|fail) only [go_sem,↓reduceIte,gm,gm1,gm2,gm3,gm4,e1,e2,← eH3,e4,ldsQ_cons,ldsQ_nil,grdQ_cons,grdQ_nil,if_true,Nat.reduceLeDiff];done)|exact trivial,?_⟩
 subst hK
 have hsp:=@Nat.succ_ne_zero;repeat' (first|simp (disch:=first|exact dqb|fail) only [go_sem,↓reduceIte,hsp]|refine WP_drw ?_|refine cnd_intro (fun hsp=>?_) fun hsp=>?_)
 have xh:Ext h H4:=by
  rw [eH4]
  refine Ext.set (Ext.trans ?_ x3) (by omega)
  rw [eH2]
  exact (xG.trans x1).set (by omega)
 refine ⟨xh,.inr ⟨id,ver,?_,?_,by omega,by rw [mvL_len hf ht];omega⟩⟩
 ·rw [mvL_len hf ht]
 ·rw [eH4,List.getElem?_set_self (by have:=x3.len;omega),rowE_iB,mvL,← ek]
end Go.AM
