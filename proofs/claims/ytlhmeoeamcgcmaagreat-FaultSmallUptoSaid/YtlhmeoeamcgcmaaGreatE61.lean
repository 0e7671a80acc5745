/-
  Contracts: all truths listed; those that explain a loom.
-/
import Derived.Test.YtlhmeoeamcgcmaaGreatE58
set_option linter.unusedSimpArgs false
set_option linter.unusedVariables false
namespace Go.AM
open Go.Proofs.Tryz
attribute [-go_sem] put_ne put_same
attribute [local go_sem ↓] put_if
theorem toN_mem {k:Int} {f:Nat} {rest:List (List Brk)} {x:List Brk}:∀ n,x ∈ toN k f rest n ↔ ∃ j,j<n∧∃ y ∈ rest,x=(k,(f:Int),((f+j:Nat):Int)) :: y
 | 0=>by simp [toN]
 | n+1=>by
  rw [toN,List.mem_append,toN_mem n]
  unfold addB
  rw [List.mem_map]
  constructor
  ·rintro (⟨j,hj,y,hy,rfl⟩|⟨y,hy,rfl⟩)
   ·exact ⟨j,by omega,y,hy,rfl⟩
   ·exact ⟨n,by omega,y,hy,rfl⟩
  ·rintro ⟨j,hj,y,hy,rfl⟩
   by_cases e:j=n
   ·subst e;exact .inr ⟨y,hy,rfl⟩
   ·exact .inl ⟨j,by omega,y,hy,rfl⟩
theorem frN_mem {k:Int} {T:Nat} {rest:List (List Brk)} {x:List Brk}:∀ n,x ∈ frN k T rest n ↔ ∃ f j,f<n∧j<T-f∧∃ y ∈ rest,x=(k,(f:Int),((f+j:Nat):Int)) :: y
 | 0=>by simp [frN]
 | n+1=>by
  rw [frN,List.mem_append,frN_mem n,toN_mem]
  constructor
  ·rintro (⟨f,j,hf,hj,h⟩|⟨j,hj,h⟩)
   ·exact ⟨f,j,by omega,hj,h⟩
   ·exact ⟨n,j,by omega,hj,h⟩
  ·rintro ⟨f,j,hf,hj,h⟩
   by_cases e:f=n
   ·subst e;exact .inr ⟨j,hj,h⟩
   ·exact .inl ⟨f,j,by omega,hj,h⟩
theorem allR_mem {T:Nat}:∀ (m k:Nat) {x:List Brk},x ∈ allR T k m ↔ x.Pairwise (fun a b=>a.1<b.1)∧∀ b ∈ x,((k:Int)≤b.1∧b.1<((k+m:Nat):Int))∧0≤b.2.1∧b.2.1≤b.2.2∧b.2.2<(T:Int)
 | 0,k,x=>by
  simp only [allR,List.mem_singleton]
  constructor
  ·rintro rfl;exact ⟨.nil,by simp⟩
  ·rintro ⟨_,h⟩
   cases x with
   | nil=>rfl
   | cons b x=>have:=(h b (by simp)).1;omega
 | m+1,k,x=>by
  rw [allR,List.mem_append,allR_mem m (k+1),frN_mem]
  constructor
  ·rintro (⟨h1,h2⟩|⟨f,j,hf,hj,y,hy,rfl⟩)
   ·exact ⟨h1,fun b hb=>⟨by have:=(h2 b hb).1;omega,(h2 b hb).2⟩⟩
   ·obtain ⟨h1,h2⟩:=(allR_mem m (k+1)).1 hy
    refine ⟨List.pairwise_cons.2 ⟨fun b hb=>by have:=(h2 b hb).1;simp only;omega,h1⟩,fun b hb=>?_⟩
    rcases List.mem_cons.1 hb with rfl|hb
    ·simp only;omega
    ·exact ⟨by have:=(h2 b hb).1;omega,(h2 b hb).2⟩
  ·rintro ⟨h1,h2⟩
   cases x with
   | nil=>exact .inl ⟨.nil,by simp⟩
   | cons b y =>
    have hb:=h2 b (by simp)
    have hy:∀ c ∈ y,((k+1:Nat):Int)≤c.1∧c.1<((k+1+m:Nat):Int):=fun c hc=>by
     have:=List.rel_of_pairwise_cons h1 hc
     have:=(h2 c (by simp [hc])).1
     omega
    by_cases e:b.1=(k:Int)
    ·refine .inr ⟨b.2.1.toNat,(b.2.2-b.2.1).toNat,by omega,by omega,y,(allR_mem m (k+1)).2 ⟨(List.pairwise_cons.1 h1).2,fun c hc=>⟨hy c hc,(h2 c (by simp [hc])).2⟩⟩,?_⟩
     congr 1
     rw [← e]
     refine Prod.ext rfl (Prod.ext ?_ ?_)
     ·show b.2.1=((b.2.1.toNat:Nat):Int);omega
     ·show b.2.2=((b.2.1.toNat+(b.2.2-b.2.1).toNat:Nat):Int);omega
    ·refine .inl ⟨h1,fun c hc=>⟨?_,(h2 c hc).2⟩⟩
     rcases List.mem_cons.1 hc with rfl|hc
     ·omega
     ·exact hy c hc
theorem rise_len {α:Type} {f:α→Int}:∀ (l:List α) {a c:Int},l.Pairwise (fun x y=>f x<f y)→(∀ x ∈ l,a≤f x∧f x<c)→a≤c→(l.length:Int)≤c-a
 | [],a,c,_,_,h=>by simp;omega
 | x :: l,a,c,hp,hm,h=>by
  have hx:=hm x (by simp)
  have:=rise_len l (a:=f x+1) (c:=c) (List.pairwise_cons.1 hp).2 (fun y hy=>⟨by have:=List.rel_of_pairwise_cons hp hy;omega,(hm y (by simp [hy])).2⟩) (by omega)
  simp only [List.length_cons]
  omega
theorem allR_len {T m k:Nat} {x:List Brk} (h:x ∈ allR T k m):x.length≤m:=by
 obtain ⟨h1,h2⟩:=(allR_mem m k).1 h
 have:=rise_len (f:=fun b:Brk=>b.1) x (a:=(k:Int)) (c:=((k+m:Nat):Int)) h1 (fun b hb=>(h2 b hb).1) (by omega)
 omega
theorem bsE0 {lit:Bool} {A:Heap}:bsA prog lit A 37 0 []=some (.emp,A):=by
 simp [bsA,rowOf,Fc.el37,fillA,repCells]
theorem app_emp {α:Type} {E:Enc α} {e t:TypeId} {base:Nat} {h:Heap} {x:AVal} {l:List α} {zs:List AVal} (hR:Rows E h x l) (hs:∀ y,(E.cells y).all AVal.scalar=true) (ht:elS prog t=some (e,E.z,zs)) (h0:0<l.length) (hl:l.length<2147483648) :
  appendA prog base h t .emp x=some (.slice (some ⟨h.length,0,0⟩) l.length l.length,h++[rowE E e l 0]):=by
 simp only [appendA,ht,hR.lenA,hR.firstN,flat_scalar hs,if_true]
 rw [if_neg (by omega),if_pos (show l.length<2 ^ 31 from hl)]
 rfl
theorem app1B {base:Nat} {K:Heap} {w:AVal} {x:List Brk} {b:Brk} (hR:Rows encB K w x) (hb:base≤K.length) (hl:x.length≤1000) :
  ∃ tv K2,appendA prog base (K++[rowE encB 128 [b] 0]) 66 (.slice (some ⟨K.length,0,0⟩) 1 1) w=some (tv,K2)∧Own encB 128 0 K2 tv (b :: x)∧Ext K K2:=by
 have o1:Own encB 128 K.length (K++[rowE encB 128 [b] 0]) (.slice (some ⟨K.length,0,0⟩) 1 1) [b]:=.inr ⟨K.length,0,rfl,get_eq rfl,Nat.le_refl _,by simp⟩
 by_cases hx:x=[]
 ·subst hx
  exact ⟨_,_,app_nil o1 (hR.ext (.app .refl)) Fc.el66 hb,o1.low (Nat.zero_le _),.app .refl⟩
 ·obtain ⟨tv,K2,a1,a2,a3,a4,a5⟩:=o1.appendR (P:=prog) (base:=base) (t:=66) (hR.ext (.app .refl)) Fc.el66 encB_sc hb (by simp) (List.length_pos_iff.2 hx) (by simp;omega)
  exact ⟨tv,K2,a1,a2.low (Nat.zero_le _),a4 K (Nat.le_refl _) (.app .refl)⟩
set_option maxHeartbeats 4000000 in
theorem run_AllR {L:Lom} {pv sv:AVal} (hLT:1≤L.T∧L.T≤12) (hpl:L.ps.length≤6) (hS:One sv):∀ (m:Nat) {k base:Nat} {h:Heap},k+m=L.ps.length→(allR L.T.toNat k m).length≤3000→base≤h.length→Parts h pv L.ps →
  Ret prog raw base (.fn 16 [] []) [lomV L.R L.T pv sv,.int .i64 (k:Int)] h (fun v H=>Ext h H∧AllAt h.length H v (allR L.T.toNat k m))
 | 0,k,base,h,hk,hl,hb,hP=>by
  have ho:=hP.one
  have l1:∀ {a:ABlk},lenOpA prog (h++[a]) 29 pv=some (.int .i64 (L.ps.length:Int)):=fun {a}=>(hP.ext (.app .refl)).lenR
  have t1:((k:Int)=(L.ps.length:Int))=True:=eq_true (by omega)
  have bz:∀ {lit:Bool} {A:Heap},lit=false→bsA prog lit A 37 1 [(0,.slice none 0 0)]=some (.slice (some ⟨A.length,0,0⟩) 1 1,A++[rowE encZ 66 [.slice none 0 0] 0]):=fun hl=>bsZ0 ⟨rfl,rfl,rfl⟩ hl
  refine ret_raw func16 rfl (by kernel_rfl) ?_
  have hsp:=@Nat.succ_ne_zero;repeat' (first|simp (disch:=first|exact dq|fail) only [go_sem,↓reduceIte,hsp,l1,t1,bz]|refine WP_drw ?_|refine cnd_intro (fun hsp=>?_) fun hsp=>?_)
  refine ⟨.app (.app .refl),[.slice none 0 0],.inr ⟨h.length+1,0,rfl,get_eq (by simp),by omega,by simp⟩,rfl,fun i x t a c=>?_⟩
  cases i with
  | zero =>
   simp only [allR,List.getElem?_cons_zero,Option.some.injEq] at a c
   subst a c
   exact .inl Own.nil
  | succ i=>simp at a
 | m+1,k,base,h,hk,hl,hb,hP=>by
  have ho:=hP.one
  have l1:∀ {a:ABlk},lenOpA prog (h++[a]) 29 pv=some (.int .i64 (L.ps.length:Int)):=fun {a}=>(hP.ext (.app .refl)).lenR
  have t1:((k:Int)=(L.ps.length:Int))=False:=eq_false (by omega)
  obtain ⟨h1,eh1⟩:∃ h1,h1=h++[(⟨.cells [.int .i64 L.R,.int .i64 L.T,pv,sv] 32 false false,0⟩:ABlk)]:=⟨_,rfl⟩
  have x1:Ext h h1:=by rw [eh1];exact .app .refl
  have hh1:=x1.len
  have l2:=(hP.ext x1).lenR
  have g1:h1[h.length]?=some ⟨.cells [.int .i64 L.R,.int .i64 L.T,pv,sv] 32 false false,0⟩:=by rw [eh1];exact get_eq rfl
  obtain ⟨rest,er⟩:∃ rest,rest=allR L.T.toNat (k+1) m:=⟨_,rfl⟩
  have hrl:rest.length≤3000:=by rw [er];simp only [allR,List.length_append] at hl;omega
  have hr0:0<rest.length:=by rw [er];exact allR_pos _ _
  obtain ⟨w1,H1,e1,y1,oR⟩:=run_AllR hLT hpl hS m (k:=k+1) (base:=base) (h:=h1) (by omega) (by rw [← er];exact hrl) (by omega) (hP.ext x1)
  rw [← er] at oR
  rw [show ((k+1:Nat):Int)=(k:Int)+1 by omega] at e1
  have r1:=oR.one
  refine ret_raw func16 rfl (by kernel_rfl) ?_
  obtain ⟨vs,hO,hvl,hin⟩:=id oR
  have hap:=fun base=>app_emp (base:=base) (hO.rows (show vs.length<2 ^ 60 by omega)) encZ_sc Fc.el37 (show 0<vs.length by omega) (by omega)
  have hH1:=y1.len
  have hsp:=@Nat.succ_ne_zero;repeat' (first|simp (disch:=first|exact dq|fail) only [go_sem,↓reduceIte,hsp,← eh1,l2,t1,g1,e1,bsE0,hap]|refine WP_drw ?_|refine cnd_intro (fun hsp=>?_) fun hsp=>?_)
  obtain ⟨H2,eH2⟩:∃ H2,H2=H1++[rowE encZ 66 vs 0]:=⟨_,rfl⟩
  rw [← eH2]
  have y2:Ext H1 H2:=by rw [eH2];exact .app .refl
  have o2:AllAt H1.length H2 (.slice (some ⟨H1.length,0,0⟩) vs.length vs.length) rest:=⟨vs,.inr ⟨H1.length,0,rfl,by rw [eH2];exact get_eq rfl,Nat.le_refl _,by omega⟩,hvl,fun i x t a c=>(hin i x t a c).ext y2⟩
  clear eH2
  have g2:=y1.get g1
  obtain ⟨T,eT⟩:=Int.eq_ofNat_of_zero_le (show 0≤L.T by omega)
  have eT2:L.T.toNat=T:=by omega
  rw [eT2] at er
  have hTs:allR T k (m+1)=rest++frN (k:Int) T rest T:=by rw [er];rfl
  rw [eT2,hTs]
  have hnl:=oR.len (show rest.length<2 ^ 60 by omega)
  refine WP_count [(6,54)] 0 T (Nat.zero_le _) (fun _ f fr h'=>fr 7=.int .i64 (f:Int)∧Ext H1 h'∧∃ v,fr 6=v∧AllAt H1.length h' v (rest++frN (k:Int) T rest f)) ?_ ?_ ?_
  ·exact ⟨by (simp (disch:=first|exact dq|fail) only [go_sem,↓reduceIte,Int.natCast_zero];first|done|rfl),y2,.slice (some ⟨H1.length,0,0⟩) vs.length vs.length,by simp (disch:=first|exact dq|fail) only [go_sem,↓reduceIte],by simp only [frN,List.append_nil];exact o2⟩
  ·rintro f fr H hf0 hf hA ⟨r7,xH,v,r6,oV⟩
   have p1:=hA 1 rfl
   have p2:=hA 2 rfl
   have p4:=hA 4 rfl
   have p5:=hA 5 rfl
   try simp (disch:=first|exact dq|fail) only [go_sem,↓reduceIte] at p1 p2 p4 p5
   have pr1:=hA 1 rfl
   simp (disch:=first|exact dq|fail) only [go_sem,↓reduceIte] at pr1
   have pr5:=hA 5 rfl
   simp (disch:=first|exact dq|fail) only [go_sem,↓reduceIte] at pr5
   have hlt:((f:Int)<L.T)=True:=eq_true (by omega)
   have g1H:=xH.get g2
   have hsp:=@Nat.succ_ne_zero;repeat' (first|simp (disch:=first|exact dq|fail) only [go_sem,↓reduceIte,hsp,r7,r6,p1,p2,p4,p5,hlt,g1H]|refine WP_drw ?_|refine cnd_intro (fun hsp=>?_) fun hsp=>?_)
   refine WP_count [(6,6),(8,54)] 0 (T-f) (Nat.zero_le _) (fun _ j fr h'=>fr 8=.int .i64 ((f+j:Nat):Int)∧Ext H1 h'∧∃ v,fr 6=v∧AllAt H1.length h' v (rest++frN (k:Int) T rest f++toN (k:Int) f rest j)) ?_ ?_ ?_
   ·exact ⟨by (simp (disch:=first|exact dq|fail) only [go_sem,↓reduceIte,Nat.add_zero,r7];first|done|rfl),xH,v,by simp (disch:=first|exact dq|fail) only [go_sem,↓reduceIte,r6],by simp only [toN,List.append_nil];exact oV⟩
   ·rintro j fr2 H2' hj0 hj hA2 ⟨r8,xH2,v2,r62,oV2⟩
    have q1:=hA2 1 rfl
    have q2:=hA2 2 rfl
    have q4:=hA2 4 rfl
    have q5:=hA2 5 rfl
    have q7:=hA2 7 rfl
    try simp (disch:=first|exact dq|fail) only [go_sem,↓reduceIte,p1,p2,p4,p5] at q1 q2 q4 q5 q7
    have q7:=hA2 7 rfl
    simp (disch:=first|exact dq|fail) only [go_sem,↓reduceIte,r7] at q7
    have qr1:=hA2 1 rfl
    simp (disch:=first|exact dq|fail) only [go_sem,↓reduceIte,pr1] at qr1
    have qr5:=hA2 5 rfl
    simp (disch:=first|exact dq|fail) only [go_sem,↓reduceIte,pr5] at qr5
    have hlt2:(((f+j:Nat):Int)<L.T)=True:=eq_true (by omega)
    have g1H2:=xH2.get g2
    have hsp:=@Nat.succ_ne_zero;repeat' (first|simp (disch:=first|exact dq|fail) only [go_sem,↓reduceIte,hsp,r8,r62,q7,q1,q2,q4,q5,q7,hlt2,g1H2]|refine WP_drw ?_|refine cnd_intro (fun hsp=>?_) fun hsp=>?_)
    refine WP_count [(6,6),(9,54)] 0 rest.length (Nat.zero_le _) (fun _ i fr h'=>fr 9=.int .i64 (i:Int)∧Ext H1 h'∧∃ v,fr 6=v∧AllAt H1.length h' v (rest++frN (k:Int) T rest f++toN (k:Int) f rest j++addB (k:Int) (f:Int) ((f+j:Nat):Int) (rest.take i))) ?_ ?_ ?_
    ·exact ⟨by (simp (disch:=first|exact dq|fail) only [go_sem,↓reduceIte,Int.natCast_zero];first|done|rfl),xH2,v2,by simp (disch:=first|exact dq|fail) only [go_sem,↓reduceIte,r62],by simp only [addB,List.take_zero,List.map_nil,List.append_nil];exact oV2⟩
    ·rintro i fr3 K hi0 hi hA3 ⟨r9,xK,v3,r63,oV3⟩
     have d1:=hA3 1 rfl
     have d2:=hA3 2 rfl
     have d4:=hA3 4 rfl
     have d5:=hA3 5 rfl
     have d7:=hA3 7 rfl
     have d8:=hA3 8 rfl
     try simp (disch:=first|exact dq|fail) only [go_sem,↓reduceIte,q1,q2,q4,q5,q7] at d1 d2 d4 d5 d7 d8
     have d7:=hA3 7 rfl
     simp (disch:=first|exact dq|fail) only [go_sem,↓reduceIte,q7] at d7
     have d8:=hA3 8 rfl
     simp (disch:=first|exact dq|fail) only [go_sem,↓reduceIte,r8] at d8
     have dr1:=hA3 1 rfl
     simp (disch:=first|exact dq|fail) only [go_sem,↓reduceIte,qr1] at dr1
     have dr5:=hA3 5 rfl
     simp (disch:=first|exact dq|fail) only [go_sem,↓reduceIte,qr5] at dr5
     have hlt3:((i:Int)<(rest.length:Int))=True:=eq_true (by omega)
     have hnK:=(oR.ext xK).len (show rest.length<2 ^ 60 by omega)
     have hx:rest[i]?=some rest[i]:=List.getElem?_eq_getElem hi
     obtain ⟨x,ex⟩:∃ x,x=rest[i]:=⟨_,rfl⟩
     rw [← ex] at hx
     obtain ⟨a,w,ad,ld,oW⟩:=(oR.ext xK).at (show rest.length<2 ^ 60 by omega) hx
     have hw:=oW.one
     have hKl:=xK.len
     have hxl:x.length≤6:=by
      have:=allR_len (T:=T) (m:=m) (k:=k+1) (x:=x) (by rw [← er];exact List.mem_of_getElem? hx)
      omega
     obtain ⟨tv,K2,eA,oT,xK2⟩:=app1B (base:=base) (b:=((k:Int),(f:Int),((f+j:Nat):Int))) (oW.rows (by omega)) (show base≤K.length by omega) (by omega)
     have hlen:(rest++frN (k:Int) T rest f++toN (k:Int) f rest j++addB (k:Int) (f:Int) ((f+j:Nat):Int) (rest.take i)).length≤10000000:=by
      have b1:=frN_len (k:=(k:Int)) (T:=T) (rest:=rest) f
      have b2:f * (T * rest.length)≤12 * (12 * 3000):=Nat.mul_le_mul (by omega) (Nat.mul_le_mul (by omega) hrl)
      have b3:j * rest.length≤12 * 3000:=Nat.mul_le_mul (by omega) hrl
      rw [List.length_append,List.length_append,List.length_append,toN_len,addB_len,List.length_take]
      omega
     obtain ⟨z,A',bz,xA,w',h',eW,oN,hl5,hE,hw1,_⟩:=(oV3.ext xK2).snoc (base:=base) (.inl oT) (by omega) (by have:=xK2.len;omega) hlen
     have d1:=ld _ (.app (t:=[rowE encB 128 [((k:Int),(f:Int),((f+j:Nat):Int))] 0]) .refl)
     have d0:=ld _ .refl
     have bsN:∀ {lit:Bool} {A:Heap},bsA prog lit A 66 1 [(0,.agg [.int .i64 (k:Int),.int .i64 (f:Int),.int .i64 ((f+j:Nat):Int)])]=some (.slice (some ⟨A.length,0,0⟩) 1 1,A++[rowE encB 128 [((k:Int),(f:Int),((f+j:Nat):Int))] 0]):=fun {lit A}=>bsBR (b:=((k:Int),(f:Int),((f+j:Nat):Int)))
     have ht1:=oT.one
     have hsp:=@Nat.succ_ne_zero;repeat' (first|simp (disch:=first|exact dq|fail) only [go_sem,↓reduceIte,hsp,r9,r63,d7,d8,dr1,dr5,d1,d2,d4,d5,d7,d8,hlt3,hnK,bsN,ad,d1,eA,bz,eW]|refine WP_drw ?_|refine cnd_intro (fun hsp=>?_) fun hsp=>?_)
     refine ⟨agq,by omega,hE _ (Nat.le_refl _) (xK.trans xK2),w',rfl,?_⟩
     rw [addB_take hx,← List.append_assoc]
     exact oN
    ·rintro fr3 K hA3 ⟨r9,xK,v3,r63,oV3⟩
     have d1:=hA3 1 rfl
     have d2:=hA3 2 rfl
     have d4:=hA3 4 rfl
     have d5:=hA3 5 rfl
     have d7:=hA3 7 rfl
     have d8:=hA3 8 rfl
     try simp (disch:=first|exact dq|fail) only [go_sem,↓reduceIte,q1,q2,q4,q5,q7] at d1 d2 d4 d5 d7 d8
     have d7:=hA3 7 rfl
     simp (disch:=first|exact dq|fail) only [go_sem,↓reduceIte,q7] at d7
     have d8:=hA3 8 rfl
     simp (disch:=first|exact dq|fail) only [go_sem,↓reduceIte,r8] at d8
     have dr1:=hA3 1 rfl
     simp (disch:=first|exact dq|fail) only [go_sem,↓reduceIte,qr1] at dr1
     have dr5:=hA3 5 rfl
     simp (disch:=first|exact dq|fail) only [go_sem,↓reduceIte,qr5] at dr5
     have hlt3:((rest.length:Int)<(rest.length:Int))=False:=eq_false (by omega)
     have hnK:=(oR.ext xK).len (show rest.length<2 ^ 60 by omega)
     rw [List.take_length] at oV3
     have hsp:=@Nat.succ_ne_zero;repeat' (first|simp (disch:=first|exact dq|fail) only [go_sem,↓reduceIte,hsp,r9,r63,d7,d8,dr5,d1,d2,d4,d5,d7,d8,hlt3,hnK]|refine WP_drw ?_|refine cnd_intro (fun hsp=>?_) fun hsp=>?_)
     refine ⟨agq,by omega,xK,v3,rfl,?_⟩
     rw [toN,← List.append_assoc]
     exact oV3
   ·rintro fr2 H2' hA2 ⟨r8,xH2,v2,r62,oV2⟩
    have q1:=hA2 1 rfl
    have q2:=hA2 2 rfl
    have q4:=hA2 4 rfl
    have q5:=hA2 5 rfl
    have q7:=hA2 7 rfl
    try simp (disch:=first|exact dq|fail) only [go_sem,↓reduceIte,p1,p2,p4,p5] at q1 q2 q4 q5 q7
    have q7:=hA2 7 rfl
    simp (disch:=first|exact dq|fail) only [go_sem,↓reduceIte,r7] at q7
    have hlt2:(((f+(T-f):Nat):Int)<L.T)=False:=eq_false (by omega)
    have g1H2:=xH2.get g2
    have hsp:=@Nat.succ_ne_zero;repeat' (first|simp (disch:=first|exact dq|fail) only [go_sem,↓reduceIte,hsp,r8,r62,q7,q1,q2,q4,q5,q7,hlt2,g1H2]|refine WP_drw ?_|refine cnd_intro (fun hsp=>?_) fun hsp=>?_)
    refine ⟨agq,by omega,xH2,v2,rfl,?_⟩
    rw [frN,← List.append_assoc]
    exact oV2
  ·rintro fr H hA ⟨r7,xH,v,r6,oV⟩
   have p1:=hA 1 rfl
   have p2:=hA 2 rfl
   have p4:=hA 4 rfl
   have p5:=hA 5 rfl
   try simp (disch:=first|exact dq|fail) only [go_sem,↓reduceIte] at p1 p2 p4 p5
   have hlt:((T:Int)<L.T)=False:=eq_false (by omega)
   have g1H:=xH.get g2
   have hsp:=@Nat.succ_ne_zero;repeat' (first|simp (disch:=first|exact dq|fail) only [go_sem,↓reduceIte,hsp,r7,r6,p1,p2,p4,p5,hlt,g1H]|refine WP_drw ?_|refine cnd_intro (fun hsp=>?_) fun hsp=>?_)
   exact ⟨x1.trans (y1.trans xH),oV.low (by omega)⟩
end Go.AM
namespace Go.AM
open Go.Proofs.Tryz
attribute [-go_sem] put_ne put_same
attribute [local go_sem ↓] put_if
theorem filter_take_succ {α:Type} (f:α→Bool) {l:List α} {n:Nat} {x:α} (h:l[n]?=some x):(l.take (n+1)).filter f=(l.take n).filter f++(if f x=true then [x] else []):=by
 rw [List.take_add_one,h,List.filter_append]
 congr 1
 simp only [Option.toList,List.filter_cons,List.filter_nil]
theorem xplM_len {L:Lom} {t:List Brk} (hc:chkM L=0) (ht:truM L t=0):xplM L t=decide ((lftM L t).1.length=0):=by
 have e:(lftM L t).2=0:=by unfold lftM;rw [if_neg (by simp [hc]),if_neg (by simp [ht])]
 unfold xplM
 rw [Bool.eq_iff_iff]
 simp [e]
set_option maxHeartbeats 4000000 in
theorem run_truthsR {base:Nat} {h:Heap} {L:Lom} {pv sv av:AVal} {ts:List (List Brk)} (hb:base≤h.length) (hP:Parts h pv L.ps) (hS:Rows encS h sv L.ss) (hc:chkM L=0) (hr:∀ p ∈ L.ps,p.rib.length≤1000) (hA0:AllAt 0 h av ts) (hl:ts.length≤3000) (ht:∀ t ∈ ts,truM L t=0∧t.length≤6) :
  Ret prog raw base (.fn 17 [] []) [lomV L.R L.T pv sv,av] h (fun v H=>Ext h H∧AllAt h.length H v (ts.filter (xplM L))):=by
 have ho:=hP.one
 have ho2:=hS.one
 have ho3:=hA0.one
 obtain ⟨k1,k2,k3,k4,k5,k6⟩:=chkM_ok hc
 obtain ⟨G,eG⟩:∃ G,G=h++[(⟨.cells [.int .i64 L.R,.int .i64 L.T,pv,sv] 32 false false,0⟩:ABlk)]:=⟨_,rfl⟩
 have xG:Ext h G:=by rw [eG];exact .app .refl
 have hG:=xG.len
 have g1:G[h.length]?=some ⟨.cells [.int .i64 L.R,.int .i64 L.T,pv,sv] 32 false false,0⟩:=by rw [eG];exact get_eq rfl
 refine ret_raw func17 rfl (by kernel_rfl) ?_
 have hsp:=@Nat.succ_ne_zero;repeat' (first|simp (disch:=first|exact dq|fail) only [go_sem,↓reduceIte,hsp,← eG]|refine WP_drw ?_|refine cnd_intro (fun hsp=>?_) fun hsp=>?_)
 refine WP_count [(5,27)] 0 ts.length (Nat.zero_le _) (fun _ i fr h'=>fr 6=.int .i64 (i:Int)∧Ext G h'∧∃ v,fr 5=v∧AllAt G.length h' v ((ts.take i).filter (xplM L))) ?_ ?_ ?_
 ·exact ⟨by (simp (disch:=first|exact dq|fail) only [go_sem,↓reduceIte,Int.natCast_zero];first|done|rfl),.refl,.slice none 0 0,by simp (disch:=first|exact dq|fail) only [go_sem,↓reduceIte],by simp only [List.take_zero,List.filter_nil];exact ⟨[],Own.nil,rfl,fun i x t a c=>by simp at a⟩⟩
 ·rintro i fr K hi0 hi hA ⟨r6,xK,v,r5,oV⟩
  have p1:=hA 1 rfl
  have p2:=hA 2 rfl
  have p4:=hA 4 rfl
  try simp (disch:=first|exact dq|fail) only [go_sem,↓reduceIte] at p1 p2 p4
  have pr1:=hA 1 rfl
  simp (disch:=first|exact dq|fail) only [go_sem,↓reduceIte] at pr1
  have hlt:((i:Int)<(ts.length:Int))=True:=eq_true (by omega)
  have xh:=xG.trans xK
  have hhK:=xh.len
  have hKl:=xK.len
  have g1K:=xK.get g1
  have hnK:=(hA0.ext xh).len (show ts.length<2 ^ 60 by omega)
  have hx:ts[i]?=some ts[i]:=List.getElem?_eq_getElem hi
  obtain ⟨x,ex⟩:∃ x,x=ts[i]:=⟨_,rfl⟩
  rw [← ex] at hx
  obtain ⟨hx1,hx2⟩:=ht x (List.mem_of_getElem? hx)
  obtain ⟨a,w,ad,ld,oW⟩:=(hA0.ext xh).at (show ts.length<2 ^ 60 by omega) hx
  have hw:=oW.one
  have d0:=ld _ .refl
  obtain ⟨u,K2,e2,x2,o2⟩:=run_leftR (base:=base) (t:=x) (by omega) (hP.ext xh) (hS.ext xh) hc hr (oW.rows (by omega)) (by omega) hx1
  have hu:=o2.one
  have lll:=@lftM_len L x
  have lu:=own_len o2 Fc.el36 (by omega)
  have d2:=ld _ x2
  have g1K2:=x2.get g1K
  have hfl:=List.length_filter_le (xplM L) (ts.take i)
  rw [List.length_take] at hfl
  have hxe:=xplM_len hc hx1
  by_cases c1:(lftM L x).1.length=0
  ·have t1:(((lftM L x).1.length:Int)=0)=True:=eq_true (by omega)
   rw [decide_eq_true c1] at hxe
   obtain ⟨z,A',bz,xA,w',h',eW,oN,hl5,hE,hw1,_⟩:=(oV.ext x2).snoc (base:=base) (oW.ext x2) (by omega) (by have:=x2.len;omega) (by omega)
   have hsp:=@Nat.succ_ne_zero;repeat' (first|simp (disch:=first|exact dq|fail) only [go_sem,↓reduceIte,hsp,r6,r5,pr1,p1,p2,p4,hlt,hnK,g1K,ad,d0,e2,lu,t1,d2,bz,eW]|refine WP_drw ?_|refine cnd_intro (fun hsp=>?_) fun hsp=>?_)
   refine ⟨agq,by omega,hE _ (Nat.le_refl _) (xK.trans x2),w',rfl,?_⟩
   rw [filter_take_succ _ hx,if_pos hxe]
   exact oN
  ·have t1:(((lftM L x).1.length:Int)=0)=False:=eq_false (by omega)
   rw [decide_eq_false c1] at hxe
   have hsp:=@Nat.succ_ne_zero;repeat' (first|simp (disch:=first|exact dq|fail) only [go_sem,↓reduceIte,hsp,r6,r5,pr1,p1,p2,p4,hlt,hnK,g1K,ad,d0,e2,lu,t1]|refine WP_drw ?_|refine cnd_intro (fun hsp=>?_) fun hsp=>?_)
   refine ⟨agq,by omega,xK.trans x2,v,rfl,?_⟩
   rw [filter_take_succ _ hx,if_neg (by rw [hxe];decide),List.append_nil]
   exact oV.ext x2
 ·rintro fr K hA ⟨r6,xK,v,r5,oV⟩
  have p1:=hA 1 rfl
  have p2:=hA 2 rfl
  have p4:=hA 4 rfl
  try simp (disch:=first|exact dq|fail) only [go_sem,↓reduceIte] at p1 p2 p4
  have pr1:=hA 1 rfl
  simp (disch:=first|exact dq|fail) only [go_sem,↓reduceIte] at pr1
  have hlt:((ts.length:Int)<(ts.length:Int))=False:=eq_false (by omega)
  have hnK:=(hA0.ext (xG.trans xK)).len (show ts.length<2 ^ 60 by omega)
  rw [List.take_length] at oV
  have hsp:=@Nat.succ_ne_zero;repeat' (first|simp (disch:=first|exact dq|fail) only [go_sem,↓reduceIte,hsp,r6,r5,pr1,p1,p2,p4,hlt,hnK]|refine WP_drw ?_|refine cnd_intro (fun hsp=>?_) fun hsp=>?_)
  exact ⟨xG.trans xK,oV.low hG⟩
def waysN (L:Lom) (i:Nat):Int:=((L.T * (L.T+1)).tdiv 2+1) ^ i
def wideM (L:Lom):Bool:=if grtM L=true ∨ 12<L.T ∨ L.T<1 ∨ 6<L.ps.length ∨ 10<L.ss.length then grtM L else decide (3000<waysN L L.ps.length)
theorem waysN_succ {L:Lom} {i:Nat}:waysN L (i+1)=waysN L i * ((L.T * (L.T+1)).tdiv 2+1):=Int.pow_succ _ _
theorem waysN_pos {L:Lom} (h:1≤(L.T * (L.T+1)).tdiv 2):∀ i,1≤waysN L i
 | 0=>by simp [waysN]
 | i+1=>by
  have:=waysN_pos h i
  rw [waysN_succ]
  have h1:=Int.mul_le_mul_of_nonneg_right this (show 0≤(L.T * (L.T+1)).tdiv 2+1 by omega)
  rw [Int.one_mul] at h1
  omega
theorem waysN_le {L:Lom} (h:1≤(L.T * (L.T+1)).tdiv 2) {i:Nat}:∀ d,waysN L i≤waysN L (i+d)
 | 0=>Int.le_refl _
 | d+1=>by
  have h0:=waysN_le h (i:=i) d
  have h2:=waysN_pos h (i+d)
  rw [← Nat.add_assoc,waysN_succ]
  have h1:=Int.mul_le_mul_of_nonneg_left (show (1:Int)≤(L.T * (L.T+1)).tdiv 2+1 by omega) (show 0≤waysN L (i+d) by omega)
  rw [Int.mul_one] at h1
  omega
set_option maxHeartbeats 2000000 in
theorem run_wide {base:Nat} {h:Heap} {v:AVal} {L:Lom} (hL:LomAt h v L):callL prog raw base (.fn 11 [] []) [v] h=some (.bool (wideM L),h):=by
 have gr:∀ {base:Nat} {a:ABlk},callL prog raw base (.fn 42 [] []) [v] (h++[a])=some (.bool (grtM L),h++[a]):=fun {base a}=>run_great (hL.ext (.app .refl))
 obtain ⟨pv,sv,rfl,hP,hS⟩:=hL
 have o1:=hP.one
 have o2:=hS.one
 have l1:∀ {a:ABlk},lenOpA prog (h++[a]) 22 pv=some (.int .i64 (L.ps.length:Int)):=fun {a}=>(hP.ext (.app .refl)).len
 have l2:∀ {a:ABlk},lenOpA prog (h++[a]) 23 sv=some (.int .i64 (L.ss.length:Int)):=fun {a}=>(hS.ext (.app .refl)).len Fc.el23
 unfold wideM
 refine callL_run func11 rfl rfl ?_
 rcases Bool.eq_false_or_eq_true (grtM L) with c0|c0
 ·rw [c0] at gr
  rw [if_pos (.inl c0),c0]
  have hsp:=@Nat.succ_ne_zero;repeat' (first|simp (disch:=first|exact dq|fail) only [go_sem,↓reduceIte,hsp,gr,l1,l2]|refine WP_drw ?_|refine cnd_intro (fun hsp=>?_) fun hsp=>?_)
  exact fB rfl
 ·rw [c0] at gr
  by_cases c1:12<L.T
  ·have t1:(12<L.T)=True:=eq_true c1
   rw [if_pos (.inr (.inl c1)),c0]
   have hsp:=@Nat.succ_ne_zero;repeat' (first|simp (disch:=first|exact dq|fail) only [go_sem,↓reduceIte,hsp,gr,l1,l2,t1]|refine WP_drw ?_|refine cnd_intro (fun hsp=>?_) fun hsp=>?_)
   exact fB rfl
  ·have t1:(12<L.T)=False:=eq_false c1
   by_cases c2:L.T<1
   ·have t2:(L.T<1)=True:=eq_true c2
    rw [if_pos (.inr (.inr (.inl c2))),c0]
    have hsp:=@Nat.succ_ne_zero;repeat' (first|simp (disch:=first|exact dq|fail) only [go_sem,↓reduceIte,hsp,gr,l1,l2,t1,t2]|refine WP_drw ?_|refine cnd_intro (fun hsp=>?_) fun hsp=>?_)
    exact fB rfl
   ·have t2:(L.T<1)=False:=eq_false c2
    by_cases c3:6<L.ps.length
    ·have t3:((L.ps.length:Int) > 6)=True:=eq_true (by omega)
     rw [if_pos (.inr (.inr (.inr (.inl c3)))),c0]
     have hsp:=@Nat.succ_ne_zero;repeat' (first|simp (disch:=first|exact dq|fail) only [go_sem,↓reduceIte,hsp,gr,l1,l2,t1,t2,t3]|refine WP_drw ?_|refine cnd_intro (fun hsp=>?_) fun hsp=>?_)
     exact fB rfl
    ·have t3:((L.ps.length:Int) > 6)=False:=eq_false (by omega)
     by_cases c4:10<L.ss.length
     ·have t4:((L.ss.length:Int) > 10)=True:=eq_true (by omega)
      rw [if_pos (.inr (.inr (.inr (.inr c4)))),c0]
      have hsp:=@Nat.succ_ne_zero;repeat' (first|simp (disch:=first|exact dq|fail) only [go_sem,↓reduceIte,hsp,gr,l1,l2,t1,t2,t3,t4]|refine WP_drw ?_|refine cnd_intro (fun hsp=>?_) fun hsp=>?_)
      exact fB rfl
     ·have t4:((L.ss.length:Int) > 10)=False:=eq_false (by omega)
      rw [if_neg (by rintro (q|q|q|q|q);rw [c0] at q;cases q;exact c1 q;exact c2 q;exact c3 q;exact c4 q)]
      obtain ⟨p,ep⟩:∃ p,p=L.T * (L.T+1):=⟨_,rfl⟩
      have hp:2≤p∧p≤156:=by
       have:L.T=1 ∨ L.T=2 ∨ L.T=3 ∨ L.T=4 ∨ L.T=5 ∨ L.T=6 ∨ L.T=7 ∨ L.T=8 ∨ L.T=9 ∨ L.T=10 ∨ L.T=11 ∨ L.T=12:=by omega
       rcases this with e|e|e|e|e|e|e|e|e|e|e|e<;>rw [ep,e]<;>decide
      obtain ⟨q,eq⟩:∃ q,q=p.tdiv 2:=⟨_,rfl⟩
      have hq:1≤q∧q≤78:=by rw [eq,Int.tdiv_eq_ediv_of_nonneg (by omega)];omega
      have hq1:1≤(L.T * (L.T+1)).tdiv 2:=by rw [← ep,← eq];exact hq.1
      have w1:binA prog .mul 3 (.int .i64 L.T) (.int .i64 (L.T+1))=some (.int .i64 p):=by rw [bin_mul,← ep,wrap64 (by omega) (by omega)]
      have w2:binA prog .quo 3 (.int .i64 p) (.int .i64 2)=some (.int .i64 q):=by rw [bin_quo (by decide),← eq,wrap64 (by omega) (by omega)]
      have hsp:=@Nat.succ_ne_zero;repeat' (first|simp (disch:=first|exact dq|fail) only [go_sem,↓reduceIte,hsp,gr,l1,l2,t1,t2,t3,t4]|refine WP_drw ?_|refine cnd_intro (fun hsp=>?_) fun hsp=>?_)
      refine WP_count [(2,3),(33,47)] 0 L.ps.length (Nat.zero_le _) (fun H0 i fr h'=>fr 33=.int .i64 (i:Int)∧h'=H0∧fr 3=.int .i64 (waysN L i)∧waysN L i≤3000) ?_ ?_ ?_
      ·exact ⟨by (simp (disch:=first|exact dq|fail) only [go_sem,↓reduceIte,Int.natCast_zero];first|done|rfl),rfl,by simp (disch:=first|exact dq|fail) only [go_sem,↓reduceIte];simp [waysN],by simp [waysN]⟩
      ·rintro i fr H hi0 hi hA ⟨r33,eH,r3,hle⟩
       subst eH
       have a1:=hA 1 rfl
       have a32:=hA 32 rfl
       try simp (disch:=first|exact dq|fail) only [go_sem,↓reduceIte] at a1 a32
       have hlt:((i:Int)<(L.ps.length:Int))=True:=eq_true (by omega)
       have hpo:=waysN_pos hq1 i
       have hm:waysN L (i+1)=waysN L i * (q+1):=by rw [waysN_succ,← ep,← eq]
       have hmb:waysN L i * (q+1)≤3000 * 79:=Int.mul_le_mul hle (by omega) (by omega) (by decide)
       have hmp:=waysN_pos hq1 (i+1)
       have w3:binA prog .mul 3 (.int .i64 (waysN L i)) (.int .i64 (q+1))=some (.int .i64 (waysN L (i+1))):=by rw [bin_mul,← hm,wrap64 (by omega) (by omega)]
       by_cases c5:waysN L (i+1) > 3000
       ·have t5:(waysN L (i+1) > 3000)=True:=eq_true c5
        have r:decide (3000<waysN L L.ps.length)=true:=decide_eq_true (by
         have:=waysN_le hq1 (i:=i+1) (L.ps.length-(i+1))
         rw [show i+1+(L.ps.length-(i+1))=L.ps.length by omega] at this
         omega)
        rw [r]
        have hsp:=@Nat.succ_ne_zero;repeat' (first|simp (disch:=first|exact dq|fail) only [go_sem,↓reduceIte,hsp,r33,r3,a1,a32,hlt,w1,w2,w3,t5]|refine WP_drw ?_|refine cnd_intro (fun hsp=>?_) fun hsp=>?_)
        exact fB rfl
       ·have t5:(waysN L (i+1) > 3000)=False:=eq_false c5
        have hsp:=@Nat.succ_ne_zero;repeat' (first|simp (disch:=first|exact dq|fail) only [go_sem,↓reduceIte,hsp,r33,r3,a1,a32,hlt,w1,w2,w3,t5]|refine WP_drw ?_|refine cnd_intro (fun hsp=>?_) fun hsp=>?_)
        exact ⟨agq,by omega,by omega⟩
      ·rintro fr H hA ⟨r33,eH,r3,hle⟩
       subst eH
       have a1:=hA 1 rfl
       have a32:=hA 32 rfl
       try simp (disch:=first|exact dq|fail) only [go_sem,↓reduceIte] at a1 a32
       have hlt:((L.ps.length:Int)<(L.ps.length:Int))=False:=eq_false (by omega)
       have r:decide (3000<waysN L L.ps.length)=false:=decide_eq_false (by omega)
       rw [r]
       have hsp:=@Nat.succ_ne_zero;repeat' (first|simp (disch:=first|exact dq|fail) only [go_sem,↓reduceIte,hsp,r33,r3,a1,a32,hlt]|refine WP_drw ?_|refine cnd_intro (fun hsp=>?_) fun hsp=>?_)
       exact fB rfl
end Go.AM
namespace Go.AM
open Go.Proofs.Tryz
attribute [-go_sem] put_ne put_same
attribute [local go_sem ↓] put_if
theorem Parts.atW {h:Heap} {pv:AVal} {ps:List Prt} {k:Nat} {p:Prt} (hP:Parts h pv ps) (hp:ps[k]?=some p):∃ a a3,indexAddrA prog 29 pv (.int .i64 (k:Int))=some a∧fieldAddrA prog 125 a 3=some a3∧(∀ H,Ext h H→loadP prog H 4 a3=some (.bool p.wv)):=by
 obtain ⟨vs,hR,hvl,h3⟩:=hP
 have hkl:k<ps.length:=(List.getElem?_eq_some_iff.1 hp).1
 have hx:vs[k]?=some vs[k]:=List.getElem?_eq_getElem (by omega)
 obtain ⟨q1,q2,q3,q4⟩:=h3 k _ _ hx hp
 have had:=hR.addr (P:=prog) (i:=(k:Int)) Fc.el29 Fc.ar29 (by omega) (by omega)
 rw [Int.toNat_natCast] at had
 refine ⟨_,_,had,elAdr_field (P:=prog) (i:=k) (o:=0) (off:=3) (q:=false) (n:=1) hR (by omega) (by kernel_rfl) (by decide),fun H e=>?_⟩
 rw [(hR.ext e).cell Fc.ty4 hx (o:=3) (a:=.bool p.wv) (by simp [encP,q4])]
set_option maxHeartbeats 2000000 in
theorem run_weaverR {base:Nat} {h:Heap} {L:Lom} {pv sv tv:AVal} {t:List Brk} {k:Nat} {s:Sgt} (hP:Parts h pv L.ps) (hS:Rows encS h sv L.ss) (hc:chkM L=0) (hr:∀ p ∈ L.ps,p.rib.length≤1000) (hT:Rows encB h tv t) (htl:t.length≤1000) (ht:∀ b ∈ t,brkOk L b) (hs:L.ss[k]?=some s) :
  callL prog raw base (.fn 41 [] []) [lomV L.R L.T pv sv,tv,.int .i64 (k:Int)] h=some (.bool (wvB L t s),h):=by
 have ho:=hP.one
 have ho2:=hS.one
 have ho3:=hT.one
 obtain ⟨k1,k2,k3,k4,k5,k6⟩:=chkM_ok hc
 have k6s:=k6 s (List.mem_of_getElem? hs)
 have hk:k<L.ss.length:=(List.getElem?_eq_some_iff.1 hs).1
 obtain ⟨G,eG⟩:∃ G,G=h++[(⟨.cells [.int .i64 L.R,.int .i64 L.T,pv,sv] 32 false false,0⟩:ABlk)]:=⟨_,rfl⟩
 have xG:Ext h G:=by rw [eG];exact .app .refl
 have g1:G[h.length]?=some ⟨.cells [.int .i64 L.R,.int .i64 L.T,pv,sv] 32 false false,0⟩:=by rw [eG];exact get_eq rfl
 have hTG:=hT.ext xG
 have hl:=hTG.len (P:=prog) Fc.el66
 have ads:=(hS.ext xG).addr (P:=prog) (i:=(k:Int)) Fc.el30 Fc.ar30 (by omega) (by omega)
 rw [Int.toNat_natCast] at ads
 have ss1:loadP prog G 126 (elAdr sv encS.z k 0)=some (.agg [.int .i64 s.rib,.int .i64 s.lo,.int .i64 s.hi,.bool s.bad]):=(hS.ext xG).load (P:=prog) Fc.ty126 hs
 have tc:=fun (base:Nat) (b:Brk) (hb:b ∈ t)=>run_touches (base:=base) (s:=s) (hP.ext xG) ho2 hc hr (ht b hb) ⟨by omega,by omega,by omega⟩
 simp only [encB,encS] at tc
 refine callL_run func41 rfl rfl ?_
 have hsp:=@Nat.succ_ne_zero;repeat' (first|simp (disch:=first|exact dq|fail) only [go_sem,↓reduceIte,hsp,← eG]|refine WP_drw ?_|refine cnd_intro (fun hsp=>?_) fun hsp=>?_)
 refine WP_count [(6,36)] 0 t.length (Nat.zero_le _) (fun _ i fr h'=>fr 7=.int .i64 (i:Int)∧h'=G∧((t.take i).any fun b=>(prtOf L b).wv && splB L b s)=false) ?_ ?_ ?_
 ·exact ⟨by (simp (disch:=first|exact dq|fail) only [go_sem,↓reduceIte,Int.natCast_zero];first|done|rfl),rfl,by simp⟩
 ·rintro i fr H hi0 hi hA ⟨r7,eH,hno⟩
  subst eH
  have p1:=hA 1 rfl
  have p2:=hA 2 rfl
  have p3:=hA 3 rfl
  try simp (disch:=first|exact dq|fail) only [go_sem,↓reduceIte] at p1 p2 p3
  have pr1:=hA 1 rfl
  simp (disch:=first|exact dq|fail) only [go_sem,↓reduceIte] at pr1
  have pr2:=hA 2 rfl
  simp (disch:=first|exact dq|fail) only [go_sem,↓reduceIte] at pr2
  have hlt:((i:Int)<(t.length:Int))=True:=eq_true (by omega)
  obtain ⟨x,ex⟩:∃ x,x=t.getD i brk0:=⟨_,rfl⟩
  have hx:t[i]?=some x:=by rw [ex];exact getD_some hi
  have hxo:=ht x (List.mem_of_getElem? hx)
  have ad:=brkAddr hTG hi
  have d1:=brkLoad hTG hx
  have f1:fieldAddrA prog 128 (elAdr tv encB.z i 0) 0=some (elAdr tv encB.z i 0):=elAdr_field (P:=prog) (i:=i) (o:=0) (off:=0) (q:=false) (n:=1) hTG (by omega) (by kernel_rfl) (by decide)
  have l1:loadP prog H 3 (elAdr tv encB.z i 0)=some (.int .i64 x.1):=hTG.cell (P:=prog) Fc.ty3 hx (o:=0) (a:=.int .i64 x.1) rfl
  obtain ⟨n,en⟩:=Int.eq_ofNat_of_zero_le hxo.1
  have hn:n<L.ps.length:=by have:=hxo.2.1;omega
  obtain ⟨q,eq⟩:∃ q,q=prtOf L x:=⟨_,rfl⟩
  have hq:L.ps[n]?=some q:=by
   rw [eq]
   unfold prtOf
   rw [show x.1.toNat=n by omega]
   exact getD_some hn
  obtain ⟨a,a3,adp,fp,lp⟩:=(hP.ext xG).atW hq
  rw [← en] at adp
  have lw:=lp _ .refl
  have e:=fun base=>tc base x (List.mem_of_getElem? hx)
  rcases Bool.eq_false_or_eq_true q.wv with w1|w1
  ·rw [w1] at lw
   rcases Bool.eq_false_or_eq_true (splB L x s) with c1|c1
   ·rw [c1] at e
    have r:wvB L t s=true:=List.any_eq_true.2 ⟨x,List.mem_of_getElem? hx,by rw [← eq,w1,c1];rfl⟩
    rw [r]
    have hsp:=@Nat.succ_ne_zero;repeat' (first|simp (disch:=first|exact dq|fail) only [go_sem,↓reduceIte,hsp,r7,pr1,pr2,p1,p2,p3,hlt,hl,g1,ad,d1,f1,l1,adp,fp,lw,ads,ss1,e]|refine WP_drw ?_|refine cnd_intro (fun hsp=>?_) fun hsp=>?_)
    exact fB rfl xG
   ·rw [c1] at e
    have hsp:=@Nat.succ_ne_zero;repeat' (first|simp (disch:=first|exact dq|fail) only [go_sem,↓reduceIte,hsp,r7,pr1,pr2,p1,p2,p3,hlt,hl,g1,ad,d1,f1,l1,adp,fp,lw,ads,ss1,e]|refine WP_drw ?_|refine cnd_intro (fun hsp=>?_) fun hsp=>?_)
    exact ⟨agq,by omega,by rw [any_take_succ _ hx,hno,c1,Bool.and_false];rfl⟩
  ·rw [w1] at lw
   have hsp:=@Nat.succ_ne_zero;repeat' (first|simp (disch:=first|exact dq|fail) only [go_sem,↓reduceIte,hsp,r7,pr1,pr2,p1,p2,p3,hlt,hl,g1,ad,d1,f1,l1,adp,fp,lw]|refine WP_drw ?_|refine cnd_intro (fun hsp=>?_) fun hsp=>?_)
   exact ⟨agq,by omega,by rw [any_take_succ _ hx,hno,← eq,w1];rfl⟩
 ·rintro fr H hA ⟨r7,eH,hno⟩
  subst eH
  have p1:=hA 1 rfl
  have p2:=hA 2 rfl
  have p3:=hA 3 rfl
  try simp (disch:=first|exact dq|fail) only [go_sem,↓reduceIte] at p1 p2 p3
  have pr1:=hA 1 rfl
  simp (disch:=first|exact dq|fail) only [go_sem,↓reduceIte] at pr1
  have hlt:((t.length:Int)<(t.length:Int))=False:=eq_false (by omega)
  rw [List.take_length] at hno
  have r:wvB L t s=false:=hno
  rw [r]
  have hsp:=@Nat.succ_ne_zero;repeat' (first|simp (disch:=first|exact dq|fail) only [go_sem,↓reduceIte,hsp,r7,pr1,p1,p2,p3,hlt,hl]|refine WP_drw ?_|refine cnd_intro (fun hsp=>?_) fun hsp=>?_)
  exact fB rfl xG
end Go.AM
