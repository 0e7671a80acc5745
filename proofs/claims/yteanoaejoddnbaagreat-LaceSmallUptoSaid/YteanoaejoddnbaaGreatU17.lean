/-
  Contracts: the longest rising list.
-/
import Derived.Test.YteanoaejoddnbaaGreatU16
import Derived.Test.YteanoaejoddnbaaGreatU15
set_option linter.unusedSimpArgs false
set_option linter.unusedVariables false
namespace Go.AM
open Go.Proofs.Tryz
attribute [-go_sem] put_ne put_same
attribute [local go_sem ↓] put_if
theorem find_upto {f:Int→Bool} {n j:Nat} (hj:j<n) (h:∀ i,i<j→f (i:Int)=false) (hf:f (j:Int)=true):(upto n).find? f=some (j:Int):=by
 obtain ⟨y,h1,h2,h3,h4⟩:=find_first (f:=f) (upto_sorted n) (upto_mem.2 ⟨by omega,by omega⟩:(j:Int) ∈ upto n) hf
 rw [h1]
 rcases h4 with h4|h4
 ·rw [h4]
 ·exfalso
  obtain ⟨k,rfl⟩:=Int.eq_ofNat_of_zero_le (upto_mem.1 h2).1
  have:=h k (by simpa using h4)
  rw [h3] at this;cases this
theorem find_upto_no {f:Int→Bool} {n:Nat} (h:∀ i,i<n→f (i:Int)=false):(upto n).find? f=none:=by
 rw [List.find?_eq_none]
 intro x hx
 obtain ⟨k,rfl⟩:=Int.eq_ofNat_of_zero_le (upto_mem.1 hx).1
 rw [h k (by have:=(upto_mem.1 hx).2;omega)];simp
theorem nxtB_nil {o:List Int} {V:Nat→Int} {left p:Int}:nxtB o V [] left p=decide (V p.toNat=left):=by simp [nxtB]
theorem nxtB_at {o out:List Int} {V:Nat→Int} {left p:Int} (h:0<out.length):nxtB o V out left p=(decide (V p.toNat=left) && decide (out.getD (out.length-1) 0<p∧o.getD (out.getD (out.length-1) 0).toNat 0<o.getD p.toNat 0)):=by
 unfold nxtB
 rw [List.getLast?_eq_getElem?,getD_some (d:=0) (by omega)]
theorem riseF_none {o:List Int} {V:Nat→Int} {m:Nat} {out:List Int} (h:∀ i,i<o.length→nxtB o V out ((m+1:Nat):Int) (i:Int)=false):riseF o V (m+1) out=riseF o V m out:=by
 rw [riseF,riseS,find_upto_no h]
theorem riseF_some {o:List Int} {V:Nat→Int} {m j:Nat} {out:List Int} (hj:j<o.length) (h:∀ i,i<j→nxtB o V out ((m+1:Nat):Int) (i:Int)=false) (hf:nxtB o V out ((m+1:Nat):Int) (j:Int)=true):riseF o V (m+1) out=riseF o V m (out++[(j:Int)]):=by
 rw [riseF,riseS,find_upto hj h hf]
theorem rsA_len {o:List Int}:(rsA o).length=o.length:=rsN_len _
theorem rsA_bd {o:List Int} (q:Nat):0≤(rsA o).getD q 0∧(rsA o).getD q 0≤(o.length:Int):=rsN_bd (Nat.le_refl _) q
theorem rsA_small {o:List Int} (h:o.length≤1000):Small (rsA o):=by
 refine ⟨by rw [rsA_len];omega,fun x hx=>?_⟩
 obtain ⟨i,hi,rfl⟩:=List.mem_iff_getElem.1 hx
 have:=rsA_bd (o:=o) i
 rw [getD_at hi] at this
 omega
theorem grt_rsA {o:List Int} (h:o.length≤1000):0≤grt (rsA o)∧grt (rsA o)≤1000:=by
 refine ⟨grt_ge.1,?_⟩
 rcases grt_is (l:=rsA o) (a:=0) with q|q
 ·unfold grt;omega
 ·obtain ⟨i,hi,e⟩:=List.mem_iff_getElem.1 q
  have:=rsA_bd (o:=o) i
  rw [getD_at hi,e] at this
  unfold grt;omega
set_option maxHeartbeats 4000000 in
theorem run_rise {base:Nat} {h:Heap} {v:AVal} {o:List Int} (hb:base≤h.length) (hI:Ints h v o) (h0:0<o.length) (hl:o.length≤1000) :
  Ret prog raw base (.fn 24 [] []) [v] h (fun w H=>Ext h H∧Own encI 3 h.length H w (riseL o)):=by
 have hv1:=hI.one
 obtain ⟨w1,H1,e1,x1,o1⟩:=run_rises hb hI h0 hl
 have ho1:=o1.one
 have i1:=own_ints o1 (rsA_small hl)
 have hg:=fun base=>run_greatest (base:=base) i1
 have hl1:=x1.len
 have hgb:=grt_rsA hl
 obtain ⟨N,eN⟩:=Int.eq_ofNat_of_zero_le hgb.1
 rw [eN] at hg
 obtain ⟨V,eV⟩:∃ V:Nat→Int,V=fun p=>(rsA o).getD p 0:=⟨_,rfl⟩
 have hres:riseL o=riseF o V N []:=by unfold riseL;rw [eN,eV];rfl
 rw [hres]
 refine ret_raw func24 rfl (by kernel_rfl) ?_
 have hsp:=@Nat.succ_ne_zero;repeat' (first|simp (disch:=first|exact dq|fail) only [go_sem,↓reduceIte,hsp,e1,hg]|refine WP_drw ?_|refine cnd_intro (fun hsp=>?_) fun hsp=>?_)
 refine WP_count [(4,61)] 0 N (Nat.zero_le _) (fun _ i fr K=>fr 5=.int .i64 ((N-i:Nat):Int)∧Ext H1 K∧∃ out w,fr 4=w∧Own encI 3 H1.length K w out∧(∀ a ∈ out,0≤a∧a<(o.length:Int))∧out.length≤i∧riseF o V N []=riseF o V (N-i) out) ?_ ?_ ?_
 ·exact ⟨by (simp (disch:=first|exact dq|fail) only [go_sem,↓reduceIte,Int.natCast_zero];first|done|rfl),.refl,[],.slice none 0 0,by simp (disch:=first|exact dq|fail) only [go_sem,↓reduceIte],Own.nil,fun a ha=>by simp at ha,Nat.le_refl _,rfl⟩
 ·rintro i fr K hi0 hi hA ⟨r5,xK,out,w,r4,hO,hin,hol,hF⟩
  have p0:=hA 0 rfl
  have p2:=hA 2 rfl
  have p3:=hA 3 rfl
  try simp (disch:=first|exact dq|fail) only [go_sem,↓reduceIte] at p0 p2 p3
  obtain ⟨m,em⟩:∃ m,N-i=m+1:=⟨N-i-1,by omega⟩
  have em2:N-(i+1)=m:=by omega
  rw [em] at r5 hF
  have hgt:(((m+1:Nat):Int) > 0)=True:=eq_true (by omega)
  have iK:=i1.ext xK
  have lK:=lenI iK
  rw [rsA_len] at lK
  have hw1:=hO.one
  have hOs:Small out:=⟨by omega,fun a ha=>by have:=hin a ha;omega⟩
  have iO:=own_ints hO hOs
  have lO:=lenI iO
  have xh:=x1.trans xK
  have hIK:=hI.ext xh
  have hKl:=xK.len
  have hm1:(((m+1:Nat):Int)-1)=(m:Int):=by omega
  have hsp:=@Nat.succ_ne_zero;repeat' (first|simp (disch:=first|exact dq|fail) only [go_sem,↓reduceIte,hsp,r5,r4,p0,p2,p3,hgt,lK]|refine WP_drw ?_|refine cnd_intro (fun hsp=>?_) fun hsp=>?_)
  refine WP_count [(4,4),(6,7),(18,61)] 0 o.length (Nat.zero_le _) (fun _ j fr H=>fr 18=.int .i64 (j:Int)∧fr 4=w∧H=K∧∀ i',i'<j→nxtB o V out ((m+1:Nat):Int) (i':Int)=false) ?_ ?_ ?_
  ·exact ⟨by (simp (disch:=first|exact dq|fail) only [go_sem,↓reduceIte,Int.natCast_zero];first|done|rfl),by simp (disch:=first|exact dq|fail) only [go_sem,↓reduceIte,r4],rfl,fun i' q=>by omega⟩
  ·rintro j fr2 K' hj0 hj hA2 ⟨r18,r4',eK,hno⟩
   subst eK
   have d0:=hA2 0 rfl
   have d2:=hA2 2 rfl
   have d3:=hA2 3 rfl
   have d5:=hA2 5 rfl
   have d16:=hA2 16 rfl
   have d17:=hA2 17 rfl
   try simp (disch:=first|exact dq|fail) only [go_sem,↓reduceIte,p0,p2,p3] at d0 d2 d3 d5 d16 d17
   have d5:=hA2 5 rfl
   simp (disch:=first|exact dq|fail) only [go_sem,↓reduceIte,r5] at d5
   have hlt:((j:Int)<(o.length:Int))=True:=eq_true (by omega)
   have lj:=loadI iK (i:=j) (by rw [rsA_len];exact hj)
   have aj:=adrI (i:=(j:Int)) (by omega) iK (by rw [rsA_len];omega)
   have lp:=loadI hIK hj
   have ap:=adrI (i:=(j:Int)) (by omega) hIK (by omega)
   rw [Int.toNat_natCast] at aj ap
   have hVj:V j=(rsA o).getD j 0:=by rw [eV]
   have hjj:((j:Int)+1)=((j+1:Nat):Int):=by omega
   obtain ⟨w',K2,ea,oW,lW,eW,oneW,kW⟩:=OwnE.snocI (base:=base) (x:=(j:Int)) (.inl hO) (by omega) (by omega) (by omega)
   have fin:nxtB o V out ((m+1:Nat):Int) (j:Int)=true→Ext H1 K2∧∃ out':List Int,∃ w2,w'=w2∧Own encI 3 H1.length K2 w2 out'∧(∀ a ∈ out',0≤a∧a<(o.length:Int))∧out'.length≤i+1∧riseF o V N []=riseF o V (N-(i+1)) out':=fun q=>by
    refine ⟨eW _ (Nat.le_refl _) xK,_,_,rfl,oW,fun a ha=>?_,by simp;omega,by rw [em2,hF,riseF_some hj hno q]⟩
    rcases List.mem_append.1 ha with ha|ha
    ·exact hin a ha
    ·simp at ha;omega
   have skip:nxtB o V out ((m+1:Nat):Int) (j:Int)=false→∀ i',i'<j+1→nxtB o V out ((m+1:Nat):Int) (i':Int)=false:=fun q i' hi'=>by
    by_cases e:i'=j
    ·rw [e];exact q
    ·exact hno i' (by omega)
   by_cases c1:(rsA o).getD j 0=((m+1:Nat):Int)
   ·have t1:((rsA o).getD j 0=((m+1:Nat):Int))=True:=eq_true c1
    by_cases c2:out=[]
    ·subst c2
     have t2:(((([]:List Int).length:Nat):Int)=0)=True:=eq_true rfl
     have hnx:nxtB o V [] ((m+1:Nat):Int) (j:Int)=true:=by rw [nxtB_nil,Int.toNat_natCast,hVj];exact decide_eq_true c1
     obtain ⟨f1,f2⟩:=fin hnx
     have hsp:=@Nat.succ_ne_zero;repeat' (first|simp (disch:=first|exact dq|fail) only [go_sem,↓reduceIte,hsp,r18,r4',d5,d0,d2,d3,d5,d16,d17,p0,p2,p3,hlt,lj,aj,lp,ap,t1,lO,t2,ea]|refine WP_drw ?_|refine cnd_intro (fun hsp=>?_) fun hsp=>?_)
     exact ⟨agq,by rw [em2];omega,f1,f2⟩
    ·have hpos:0<out.length:=by cases out with|nil=>exact absurd rfl c2|cons a b=>simp
     have t2:((out.length:Int)=0)=False:=eq_false (by omega)
     obtain ⟨a,ea'⟩:∃ a,a=out.getD (out.length-1) 0:=⟨_,rfl⟩
     have hab:=hin a (by rw [ea'];exact getD_mem (by omega))
     have t3:((out.length:Int)-1)=((out.length-1:Nat):Int):=by omega
     have al:=adrI (i:=((out.length-1:Nat):Int)) (by omega) iO (by omega)
     rw [Int.toNat_natCast] at al
     have ll:=loadI iO (i:=out.length-1) (by omega)
     rw [← ea'] at ll
     have aa:=adrI (i:=a) (by omega) hIK (by omega)
     have la:=loadI hIK (i:=a.toNat) (by omega)
     have hnx:=nxtB_at (o:=o) (V:=V) (left:=((m+1:Nat):Int)) (p:=(j:Int)) hpos
     rw [← ea',Int.toNat_natCast,hVj,decide_eq_true c1,Bool.true_and] at hnx
     by_cases c3:(j:Int) > a
     ·have t4:((j:Int) > a)=True:=eq_true c3
      by_cases c4:o.getD j 0 > o.getD a.toNat 0
      ·have t5:(o.getD j 0 > o.getD a.toNat 0)=True:=eq_true c4
       obtain ⟨f1,f2⟩:=fin (by rw [hnx];exact decide_eq_true ⟨c3,c4⟩)
       have hsp:=@Nat.succ_ne_zero;repeat' (first|simp (disch:=first|exact dq|fail) only [go_sem,↓reduceIte,hsp,r18,r4',d5,d0,d2,d3,d5,d16,d17,p0,p2,p3,hlt,lj,aj,lp,ap,t1,lO,t2,t3,al,ll,aa,la,t4,t5,ea]|refine WP_drw ?_|refine cnd_intro (fun hsp=>?_) fun hsp=>?_)
       exact ⟨agq,by rw [em2];omega,f1,f2⟩
      ·have t5:(o.getD j 0 > o.getD a.toNat 0)=False:=eq_false c4
       have s1:=skip (by rw [hnx];exact decide_eq_false (fun q=>c4 q.2))
       have hsp:=@Nat.succ_ne_zero;repeat' (first|simp (disch:=first|exact dq|fail) only [go_sem,↓reduceIte,hsp,r18,r4',d5,d0,d2,d3,d5,d16,d17,p0,p2,p3,hlt,lj,aj,lp,ap,t1,lO,t2,t3,al,ll,aa,la,t4,t5]|refine WP_drw ?_|refine cnd_intro (fun hsp=>?_) fun hsp=>?_)
       exact ⟨agq,by omega,s1⟩
     ·have t4:((j:Int) > a)=False:=eq_false c3
      have s1:=skip (by rw [hnx];exact decide_eq_false (fun q=>c3 q.1))
      have hsp:=@Nat.succ_ne_zero;repeat' (first|simp (disch:=first|exact dq|fail) only [go_sem,↓reduceIte,hsp,r18,r4',d5,d0,d2,d3,d5,d16,d17,p0,p2,p3,hlt,lj,aj,lp,ap,t1,lO,t2,t3,al,ll,aa,la,t4]|refine WP_drw ?_|refine cnd_intro (fun hsp=>?_) fun hsp=>?_)
      exact ⟨agq,by omega,s1⟩
   ·have t1:((rsA o).getD j 0=((m+1:Nat):Int))=False:=eq_false c1
    have s1:=skip (by unfold nxtB;rw [Int.toNat_natCast,hVj,decide_eq_false c1];rfl)
    have hsp:=@Nat.succ_ne_zero;repeat' (first|simp (disch:=first|exact dq|fail) only [go_sem,↓reduceIte,hsp,r18,r4',d5,d0,d2,d3,d5,d16,d17,p0,p2,p3,hlt,lj,aj,lp,ap,t1]|refine WP_drw ?_|refine cnd_intro (fun hsp=>?_) fun hsp=>?_)
    exact ⟨agq,by omega,s1⟩
  ·rintro fr2 K' hA2 ⟨r18,r4',eK,hno⟩
   subst eK
   have d0:=hA2 0 rfl
   have d2:=hA2 2 rfl
   have d3:=hA2 3 rfl
   have d5:=hA2 5 rfl
   have d16:=hA2 16 rfl
   have d17:=hA2 17 rfl
   try simp (disch:=first|exact dq|fail) only [go_sem,↓reduceIte,p0,p2,p3] at d0 d2 d3 d5 d16 d17
   have d5:=hA2 5 rfl
   simp (disch:=first|exact dq|fail) only [go_sem,↓reduceIte,r5] at d5
   have hlt:((o.length:Int)<(o.length:Int))=False:=eq_false (by omega)
   have hsp:=@Nat.succ_ne_zero;repeat' (first|simp (disch:=first|exact dq|fail) only [go_sem,↓reduceIte,hsp,r18,r4',d5,d0,d2,d3,d5,d16,d17,p0,p2,p3,hlt]|refine WP_drw ?_|refine cnd_intro (fun hsp=>?_) fun hsp=>?_)
   exact ⟨agq,by rw [em2];omega,xK,out,w,rfl,hO,hin,by omega,by rw [em2,hF,riseF_none hno]⟩
 ·rintro fr K hA ⟨r5,xK,out,w,r4,hO,hin,hol,hF⟩
  have p0:=hA 0 rfl
  have p2:=hA 2 rfl
  have p3:=hA 3 rfl
  try simp (disch:=first|exact dq|fail) only [go_sem,↓reduceIte] at p0 p2 p3
  rw [Nat.sub_self] at r5 hF
  rw [Int.natCast_zero] at r5
  have hw1:=hO.one
  have hgt:((0:Int) > 0)=False:=eq_false (by omega)
  have hsp:=@Nat.succ_ne_zero;repeat' (first|simp (disch:=first|exact dq|fail) only [go_sem,↓reduceIte,hsp,r5,r4,p0,p2,p3,hgt]|refine WP_drw ?_|refine cnd_intro (fun hsp=>?_) fun hsp=>?_)
  refine ⟨x1.trans xK,?_⟩
  rw [hF,riseF]
  exact hO.low hl1
def risE (o:List Int):List Int × Int:=if aloL o=0 then (riseL o,0) else ([],aloL o)
theorem run_Rise {base:Nat} {h:Heap} {v:AVal} {o:List Int} (hb:base≤h.length) (hI:Ints h v o) :
  Ret prog raw base (.fn 37 [] []) [v] h (fun w H=>Ext h H∧∃ x,w=.tuple [x,.int .i64 (risE o).2]∧Own encI 3 h.length H x (risE o).1):=by
 have ha:=fun base=>run_alone (base:=base) hI
 by_cases c:aloL o=0
 ·obtain ⟨c1,c2,c3⟩:=aloL_iff.1 c
  obtain ⟨w1,H1,e1,x1,o1⟩:=run_rise hb hI (by omega) (by omega)
  have ho1:=o1.one
  rw [c] at ha
  have r:risE o=(riseL o,0):=by unfold risE;rw [if_pos c]
  rw [r]
  have hl1:=x1.len
  refine ret_raw func37 rfl (by kernel_rfl) ?_
  have hsp:=@Nat.succ_ne_zero;repeat' (first|simp (disch:=first|exact dq|fail) only [go_sem,↓reduceIte,hsp,ha,eq_self,e1]|refine WP_drw ?_|refine cnd_intro (fun hsp=>?_) fun hsp=>?_)
  exact ⟨x1,_,rfl,o1⟩
 ·have t1:(aloL o=0)=False:=eq_false c
  have r:risE o=([],aloL o):=by unfold risE;rw [if_neg c]
  rw [r]
  refine ret_raw func37 rfl (by kernel_rfl) ?_
  have hsp:=@Nat.succ_ne_zero;repeat' (first|simp (disch:=first|exact dq|fail) only [go_sem,↓reduceIte,hsp,ha,t1]|refine WP_drw ?_|refine cnd_intro (fun hsp=>?_) fun hsp=>?_)
  exact ⟨.refl,_,rfl,Own.nil⟩
end Go.AM
namespace Go.AM
open Go.Proofs.Tryz
theorem sl_from {id ver o n k:Nat} {lo:Int} (h0:0≤lo) (h1:lo≤n) (h2:n≤k):sliceA prog 22 (.slice (some ⟨id,ver,o⟩) n k) (some (.int .i64 lo)) none none=some (.slice (some ⟨id,ver,o+lo.toNat⟩) (n-lo.toNat) (k-lo.toNat)):=by
 have e1:lo≤(n:Int):=h1
 simp [sliceA,Fc.ar22,Fc.el22,optB,boundA,ARef.add,h0,e1]
theorem sl_to {id ver o n k:Nat} {hi:Int} (h0:0≤hi) (h1:hi≤k):sliceA prog 22 (.slice (some ⟨id,ver,o⟩) n k) none (some (.int .i64 hi)) none=some (.slice (some ⟨id,ver,o⟩) hi.toNat k):=by
 have e1:hi≤(k:Int):=h1
 simp [sliceA,Fc.ar22,Fc.el22,optB,boundA,ARef.add,h0,e1]
def nodup (l:List Int):Prop:=∀ i,i<l.length→0<i→l.getD i 0 ≠ l.getD (i-1) 0
def riseB (l:List Int):Bool:=decide (∀ i,i<l.length→0<i→l.getD (i-1) 0<l.getD i 0)
end Go.AM
namespace Go.AM
theorem splice_mid:∀ (vs pre c d:List AVal),c.length=vs.length→splice (pre++c++d) pre.length vs=pre++vs++d
 | [],pre,c,d,h=>by rw [List.eq_nil_of_length_eq_zero h];rfl
 | v :: vs,pre,[],d,h=>by simp at h
 | v :: vs,pre,x :: c,d,h=>by
  have:=splice_mid vs (pre++[v]) c d (by simpa using h)
  rw [splice]
  rw [show (pre++x :: c++d).set pre.length v=pre++[v]++c++d by simp]
  rw [show pre.length+1=(pre++[v]).length by simp,this]
  simp
theorem stQ_rowE {α:Type} {E:Enc α} {e:TypeId} {l:List α} {i base id ver:Nat} {x:α} {K:ABlk→Heap} (hi:i<l.length) (hs:(E.cells x).all AVal.scalar=true) (hb:base≤id) :
  stQ base id (some (rowE E e l ver)) ver (i * E.z) (E.cells x) K=some (K (rowE E e (l.set i x) ver)):=by
 have hle:i * E.z+E.z≤l.length * E.z:=by rw [← Nat.succ_mul];exact Nat.mul_le_mul_right _ hi
 have e1:flat E l=(flat E l).take (i * E.z)++((flat E l).drop (i * E.z)).take E.z++(flat E l).drop ((i+1) * E.z):=by
  rw [List.append_assoc,Nat.succ_mul,← List.drop_drop,List.take_append_drop,List.take_append_drop]
 have hl:((flat E l).take (i * E.z)).length=i * E.z:=by rw [List.length_take,flat_len];omega
 have key:splice (flat E l) (i * E.z) (E.cells x)=flat E (l.set i x):=by
  rw [flat_set E hi]
  have:=splice_mid (E.cells x) ((flat E l).take (i * E.z)) (((flat E l).drop (i * E.z)).take E.z) ((flat E l).drop ((i+1) * E.z)) (by rw [E.len,List.length_take,List.length_drop,flat_len];omega)
  rwa [hl,← e1] at this
 unfold rowE
 rw [stQ_own hb (by rw [E.len,flat_len];exact hle) hs,key]
theorem Own.setRow {α β:Type} {E:Enc α} {E2:Enc β} {e e2:TypeId} {b a ver:Nat} {h:Heap} {v:AVal} {l:List α} {m:List β} {k:ABlk} (x:Own E2 e2 b h v m) (hg:h[a]?=some (rowE E e l ver)) (hne:e2 ≠ e):Own E2 e2 b (h.set a k) v m:=by
 rcases x with q|⟨id,u,e1,g,e3,e4⟩
 ·exact .inl q
 ·have hia:id ≠ a:=by
   rintro rfl
   rw [g] at hg
   simp only [rowE,Option.some.injEq,ABlk.mk.injEq,ABody.cells.injEq] at hg
   exact hne hg.1.2.1
  exact .inr ⟨id,u,e1,by rw [List.getElem?_set_ne (fun q=>hia q.symm)];exact g,e3,e4⟩
end Go.AM
namespace Go.AM
open Go.Proofs.Tryz
attribute [-go_sem] put_ne put_same
attribute [local go_sem ↓] put_if
section
variable {base id ver:Nat} {h:Heap} {m:List Int}
abbrev iB (m:List Int) (ver:Nat):ABlk:=srB m 3 ver
theorem stI {o:Nat} {z:List Int} (hg:h[id]?=some (iB m ver)) (hb:base≤id) (ho:o+z.length≤m.length):storeN base h ⟨id,ver,o⟩ (ints z)=some (h.set id (iB (m.take o++z++m.drop (o+z.length)) ver)):=by
 have e:ints m=ints (m.take o)++ints ((m.drop o).take z.length)++ints (m.drop (o+z.length)):=by
  rw [ints_app,ints_app]
  congr 1
  rw [List.append_assoc,← List.drop_drop,List.take_append_drop,List.take_append_drop]
 have h1:=splice_mid (ints z) (ints (m.take o)) (ints ((m.drop o).take z.length)) (ints (m.drop (o+z.length))) (by simp [ints];omega)
 rw [← e,ints_app,ints_app,show (ints (m.take o)).length=o by simp [ints];omega] at h1
 unfold storeN
 simp only [hg]
 rw [if_pos ⟨trivial,by simp only [ints_length];omega,ints_scalar _,.inl hb⟩,h1]
theorem ldI {o n a b:Nat} (hg:h[id]?=some (iB m ver)) (ho:o+n≤m.length):firstN h 1 n (.slice (some ⟨id,ver,o⟩) a b)=some (ints ((m.drop o).take n)):=by
 simp only [firstN,loadN,cellsAt,hg,Nat.mul_one,if_true]
 rw [if_pos (by simp only [ints_length];omega)]
 simp [ints,List.map_take,List.map_drop]
theorem sl_two {o n k:Nat} {lo hi:Int} (h0:0≤lo) (h1:lo≤hi) (h2:hi≤k):sliceA prog 22 (.slice (some ⟨id,ver,o⟩) n k) (some (.int .i64 lo)) (some (.int .i64 hi)) none=some (.slice (some ⟨id,ver,o+lo.toNat⟩) (hi.toNat-lo.toNat) (k-lo.toNat)):=by
 simp only [sliceA,Fc.ar22,Fc.el22,optB,boundI (show 0≤hi by omega) h2,boundI h0 (show lo≤(hi.toNat:Int) by omega)]
 simp [ARef.add]
theorem sl_three {o n k:Nat} {lo hi mx:Int} (h0:0≤lo) (h1:lo≤hi) (h2:hi≤mx) (h3:mx≤k):∃ v,sliceA prog 22 (.slice (some ⟨id,ver,o⟩) n k) (some (.int .i64 lo)) (some (.int .i64 hi)) (some (.int .i64 mx))=some v:=by
 simp only [sliceA,Fc.ar22,Fc.el22,optB,boundI (show 0≤mx by omega) h3,boundI (show 0≤hi by omega) (show hi≤(mx.toNat:Int) by omega),boundI h0 (show lo≤(hi.toNat:Int) by omega)]
 exact ⟨_,rfl⟩
theorem er_take {l:List Int} {i:Nat}:l.eraseIdx i=l.take i++l.drop (i+1):=List.eraseIdx_eq_take_drop_succ l i
theorem run_delete {l:List Int} {i:Nat} (hg:h[id]?=some (iB l ver)) (hb:base≤id) (hi:i<l.length) (hl:l.length≤1000) :
  Ret prog raw base (.fn 27 [] []) [.slice (some ⟨id,ver,0⟩) l.length l.length,.int .i64 (i:Int),.int .i64 ((i:Int)+1)] h (fun w H=>w=.slice (some ⟨id,ver,0⟩) (l.length-1) l.length∧H=h.set id (iB (l.eraseIdx i++[0]) ver)):=by
 obtain ⟨n,en⟩:∃ n,l.length=n:=⟨_,rfl⟩
 rw [en] at hi hl ⊢
 have hid:=lt_of_get hg
 obtain ⟨v3,e3⟩:=sl_three (id:=id) (ver:=ver) (o:=0) (n:=n) (k:=n) (lo:=(i:Int)) (hi:=(i:Int)+1) (mx:=(n:Int)) (by omega) (by omega) (by omega) (by omega)
 have t1:((i:Int)=(i:Int)+1)=False:=eq_false (by omega)
 have s1:=sl_to (id:=id) (ver:=ver) (o:=0) (n:=n) (k:=n) (hi:=(i:Int)) (by omega) (by omega)
 have s2:=sl_from (id:=id) (ver:=ver) (o:=0) (n:=n) (k:=n) (lo:=(i:Int)+1) (by omega) (by omega) (by omega)
 rw [Int.toNat_natCast] at s1
 rw [show ((i:Int)+1).toNat=i+1 by omega,Nat.zero_add] at s2
 obtain ⟨m,em⟩:∃ m,m=l.eraseIdx i++l.drop (n-1):=⟨_,rfl⟩
 have hel:(l.eraseIdx i).length=n-1:=by rw [List.length_eraseIdx,if_pos (by omega)];omega
 have hml:m.length=n:=by rw [em,List.length_append,hel,List.length_drop];omega
 have hap:appendA prog base h 22 (.slice (some ⟨id,ver,0⟩) i n) (.slice (some ⟨id,ver,i+1⟩) (n-(i+1)) (n-(i+1)))=some (.slice (some ⟨id,ver,0⟩) (n-1) n,h.set id (iB m ver)):=by
  simp only [appendA,Fc.el22,lenA,ldI (o:=i+1) (n:=n-(i+1)) hg (by omega),ints_scalar,if_true]
  rw [if_pos (by omega)]
  have:(ARef.mk id ver 0).add (i * 1)=⟨id,ver,i⟩:=by simp [ARef.add]
  rw [this,List.take_of_length_le (by simp;omega),stI hg hb (by simp;omega)]
  simp only [List.length_drop,en]
  rw [show i+(n-(i+1))=n-1 by omega,← er_take,em]
 obtain ⟨G,eG⟩:∃ G,G=h.set id (iB m ver):=⟨_,rfl⟩
 rw [← eG] at hap
 have gG:G[id]?=some (iB m ver):=by rw [eG,List.getElem?_set_self hid]
 have s3:=sl_two (id:=id) (ver:=ver) (o:=0) (n:=n-1) (k:=n) (lo:=((n-1:Nat):Int)) (hi:=(n:Int)) (by omega) (by omega) (by omega)
 rw [Int.toNat_natCast,Int.toNat_natCast,Nat.zero_add,show n-(n-1)=1 by omega] at s3
 have hcl:clearA prog base G 22 (.slice (some ⟨id,ver,n-1⟩) 1 1)=some (.tuple [],G.set id (iB (l.eraseIdx i++[0]) ver)):=by
  have hs:=stI (z:=[0]) (o:=n-1) gG hb (by simp;omega)
  have hr:repCells [AVal.int .i64 0] (0+1)=ints [0]:=rfl
  have e:m.take (n-1)++[0]++m.drop (n-1+[(0:Int)].length)=l.eraseIdx i++[0]:=by
   rw [em,List.take_left' hel,List.drop_of_length_le (by simp [hel];omega),List.append_nil]
  rw [e] at hs
  simp only [clearA,Fc.el22,hr,hs]
 refine ret_raw func27 rfl (by kernel_rfl) ?_
 have hsp:=@Nat.succ_ne_zero;repeat' (first|simp (disch:=first|exact dq|fail) only [go_sem,↓reduceIte,hsp,e3,t1,s1,s2,hap,s3,hcl]|refine WP_drw ?_|refine cnd_intro (fun hsp=>?_) fun hsp=>?_)
 rw [eG,List.set_set]
theorem run_insert {id2:Nat} {r:List Int} {t:Nat} {x z:Int} (hg:h[id]?=some (iB (r++[z]) ver)) (hg2:h[id2]?=some (rowB [x] 0)) (hne:id2 ≠ id) (hb:base≤id) (ht:t≤r.length) (hl:r.length≤1000) :
  Ret prog raw base (.fn 83 [] []) [.slice (some ⟨id,ver,0⟩) r.length (r.length+1),.int .i64 (t:Int),.slice (some ⟨id2,0,0⟩) 1 1] h (fun w H=>w=.slice (some ⟨id,ver,0⟩) (r.length+1) (r.length+1)∧H=h.set id (iB (r.insertIdx t x) ver)):=by
 obtain ⟨k,ek⟩:∃ k,r.length=k:=⟨_,rfl⟩
 rw [ek] at ht hl ⊢
 have hq:(insQ f83 [.slice (some ⟨id,ver,0⟩) k (k+1),.int .i64 (t:Int),.slice (some ⟨id2,0,0⟩) 1 1] || srtQ f83 [.slice (some ⟨id,ver,0⟩) k (k+1),.int .i64 (t:Int),.slice (some ⟨id2,0,0⟩) 1 1])=false:=by
  rw [Bool.or_eq_false_iff]
  exact ⟨by unfold insQ;simp,by unfold srtQ;simp⟩
 have hid:=lt_of_get hg
 have s1:=sl_from (id:=id) (ver:=ver) (o:=0) (n:=k) (k:=k+1) (lo:=(t:Int)) (by omega) (by omega) (by omega)
 rw [Int.toNat_natCast,Nat.zero_add] at s1
 have hI2:Ints h (.slice (some ⟨id2,0,0⟩) 1 1) [x]→True:=fun _=>trivial
 have n1:∀ {H:Heap},lenOpA prog H 22 (.slice (some ⟨id2,0,0⟩) 1 1)=some (.int .i64 1):=fun {H}=>by simp [lenOpA,Fc.el22,lenA]
 have n2:∀ {H:Heap} {q:Nat},lenOpA prog H 22 (.slice (some ⟨id,ver,0⟩) k q)=some (.int .i64 (k:Int)):=fun {H q}=>by simp [lenOpA,Fc.el22,lenA]
 have t0:((1:Int)=0)=False:=eq_false (by omega)
 have l2:∀ {H:Heap},H[id2]?=some (rowB [x] 0)→firstN H 1 1 (.slice (some ⟨id2,0,0⟩) 1 1)=some (ints [x]):=fun {H} hg=>by
  have:=ldI (h:=H) (id:=id2) (ver:=0) (m:=[x]) (o:=0) (n:=1) (a:=1) (b:=1) hg (by simp)
  simpa using this
 by_cases c:t=k
 ·have t1:((t:Int)=(k:Int))=True:=eq_true (by omega)
  have hap:appendA prog base h 22 (.slice (some ⟨id,ver,0⟩) k (k+1)) (.slice (some ⟨id2,0,0⟩) 1 1)=some (.slice (some ⟨id,ver,0⟩) (k+1) (k+1),h.set id (iB (r.insertIdx t x) ver)):=by
   simp only [appendA,Fc.el22,lenA,l2 hg2,ints_scalar,if_true]
   rw [if_pos (by omega)]
   have:(ARef.mk id ver 0).add (k * 1)=⟨id,ver,k⟩:=by simp [ARef.add]
   rw [this,stI hg hb (by simp;omega)]
   simp only
   rw [List.take_left' ek,List.drop_of_length_le (by simp;omega),List.append_nil,c,← ek,List.insertIdx_length_self]
  refine ret_rawQ func83 rfl (by kernel_rfl) ?_ hq
  have hsp:=@Nat.succ_ne_zero;repeat' (first|simp (disch:=first|exact dq|fail) only [go_sem,↓reduceIte,hsp,s1,n1,n2,t0,t1,hap]|refine WP_drw ?_|refine cnd_intro (fun hsp=>?_) fun hsp=>?_)
 ·have t1:((t:Int)=(k:Int))=False:=eq_false (by omega)
  have hcp:=fun m=>cap_slice (P:=prog) Fc.el22 (r:=some ⟨id,ver,0⟩) (m:=m) (k:=k+1)
  have hkk:((k:Int)+1)=((k+1:Nat):Int):=by omega
  have htt:((t:Int)+1)=((t+1:Nat):Int):=by omega
  have hroom:binA prog .gtr 3 (.int .i64 ((k+1:Nat):Int)) (.atl (k+1))=some (.bool false):=bin_room (by omega)
  have s2:=sl_to (id:=id) (ver:=ver) (o:=0) (n:=k) (k:=k+1) (hi:=((k+1:Nat):Int)) (by omega) (by omega)
  have s3:=sl_from (id:=id) (ver:=ver) (o:=0) (n:=k+1) (k:=k+1) (lo:=((t+1:Nat):Int)) (by omega) (by omega) (by omega)
  have s4:=sl_from (id:=id) (ver:=ver) (o:=0) (n:=k+1) (k:=k+1) (lo:=(t:Int)) (by omega) (by omega) (by omega)
  rw [Int.toNat_natCast] at s2
  rw [Int.toNat_natCast,Nat.zero_add] at s3 s4
  obtain ⟨inf,einf⟩:=Option.isSome_iff_exists.1 (show (prog.info? 3).isSome=true by kernel_rfl)
  have hov:callL prog raw base (.fn 117 [] []) [.slice (some ⟨id2,0,0⟩) 1 1,.slice (some ⟨id,ver,t+1⟩) (k+1-(t+1)) (k+1-(t+1))] h=some (.bool false,h) :=
   callL_ovl (fn:=f117) (by kernel_rfl) (by kernel_rfl) ⟨by kernel_rfl,by kernel_rfl,22,4,3,inf,by kernel_rfl,by kernel_rfl,einf⟩ hne (by omega) (by omega) (offOk_of hg2 (by simp [ints])) (offOk_of hg (by simp [ints];omega))
  obtain ⟨m,em⟩:∃ m,m=r.take (t+1)++r.drop t:=⟨_,rfl⟩
  have hml:m.length=k+1:=by rw [em];simp;omega
  have hc1:copyA prog base h 22 (.slice (some ⟨id,ver,t+1⟩) (k+1-(t+1)) (k+1-(t+1))) (.slice (some ⟨id,ver,t⟩) (k+1-t) (k+1-t))=some (.int .i64 ((k-t:Nat):Int),h.set id (iB m ver)):=by
   have hmin:min (k+1-t) (k+1-(t+1))=k-t:=by omega
   have hd:((r++[z]).drop t).take (k-t)=r.drop t:=by
    rw [List.drop_append_of_le_length (by omega),List.take_left' (by simp;omega)]
   have e:(r++[z]).take (t+1)++r.drop t++(r++[z]).drop (t+1+(r.drop t).length)=m:=by
    rw [List.take_append_of_le_length (by omega),List.drop_of_length_le (i:=t+1+(r.drop t).length) (by simp;omega),List.append_nil,em]
   simp only [copyA,Fc.el22,lenA,hmin,ldI (o:=t) (n:=k-t) hg (by simp;omega),hd,stI (o:=t+1) (z:=r.drop t) hg hb (by simp;omega),e]
  obtain ⟨G,eG⟩:∃ G,G=h.set id (iB m ver):=⟨_,rfl⟩
  rw [← eG] at hc1
  have gG:G[id]?=some (iB m ver):=by rw [eG,List.getElem?_set_self hid]
  have g2:G[id2]?=some (rowB [x] 0):=by rw [eG,List.getElem?_set_ne (by omega)];exact hg2
  have hc2:copyA prog base G 22 (.slice (some ⟨id,ver,t⟩) (k+1-t) (k+1-t)) (.slice (some ⟨id2,0,0⟩) 1 1)=some (.int .i64 ((1:Nat):Int),G.set id (iB (r.insertIdx t x) ver)):=by
   have hmin:min 1 (k+1-t)=1:=by omega
   have e:m.take t++[x]++m.drop (t+[x].length)=r.insertIdx t x:=by
    rw [ins_eq (by omega),em,List.take_append_of_le_length (by simp;omega),List.take_take,Nat.min_eq_left (by omega),show t+[x].length=(r.take (t+1)).length by simp;omega,List.drop_left]
    simp
   simp only [copyA,Fc.el22,lenA,hmin,l2 g2,stI (o:=t) (z:=[x]) gG hb (by simp;omega),e]
  refine ret_rawQ func83 rfl (by kernel_rfl) ?_ hq
  have hsp:=@Nat.succ_ne_zero;repeat' (first|simp (disch:=first|exact dq|fail) only [go_sem,↓reduceIte,hsp,s1,n1,n2,t0,t1,hcp,hkk,htt,hroom,s2,s3,s4,hov,hc1,hc2]|refine WP_drw ?_|refine cnd_intro (fun hsp=>?_) fun hsp=>?_)
  rw [eG,List.set_set]
end
end Go.AM
namespace Go.AM
open Go.Proofs.Tryz
attribute [-go_sem] put_ne put_same
attribute [local go_sem ↓] put_if
theorem OwnE.pos {α:Type} {E:Enc α} {e b:Nat} {H:Heap} {v:AVal} {l:List α} (x:OwnE E e b H v l) (h:0<l.length):∃ id ver,v=.slice (some ⟨id,ver,0⟩) l.length l.length∧H[id]?=some (rowE E e l ver)∧b≤id:=by
 rcases x with (⟨_,rfl⟩|⟨id,ver,h1,h2,h3,_⟩)|⟨_,rfl⟩
 ·simp at h
 ·exact ⟨id,ver,h1,h2,h3⟩
 ·simp at h
theorem rowE_iB {l:List Int} {ver:Nat}:rowE encI 3 l ver=iB l ver:=by rw [rowE,flat_encI]
abbrev mvB (f t:Int):ABlk:=⟨.cells [.int .i64 f,.int .i64 t] 41 false false,0⟩
theorem stL6 {base:Nat} {l:List Oper} {s:St} {Q:AExit→St→Prop}:WP prog raw base (.region 2 l.toArray true) s Q=WPS prog raw base (.region 2 l.toArray true) s Q:=WP_stop
attribute [local go_sem ↓ 3000] stL6
set_option maxHeartbeats 2000000 in
theorem run_made {base:Nat} {h:Heap} {v:AVal} {o:List Int} {f t:Nat} (hb:base≤h.length) (hI:Ints h v o) (hl:o.length≤1000) (hf:f<o.length) (ht:t<o.length) :
  Ret prog raw base (.fn 29 [] []) [v,.agg [.int .i64 (f:Int),.int .i64 (t:Int)]] h (fun w H=>Ext h H∧Own encI 3 h.length H w (mvL o f t)):=by
 have hv1:=hI.one
 obtain ⟨G,eG⟩:∃ G,G=h++[mvB f t]:=⟨_,rfl⟩
 have xG:Ext h G:=by rw [eG];exact .app .refl
 have gm:G[h.length]?=some (mvB f t):=by rw [eG];exact get_eq rfl
 have hGl:G.length=h.length+1:=by rw [eG];simp
 have hIG:=hI.ext xG
 have lf:=loadI hIG hf
 have af:=adrI (i:=(f:Int)) (by omega) hIG (by omega)
 rw [Int.toNat_natCast] at af
 obtain ⟨v1,H1,e1,x1,o1⟩:=run_cloneE (base:=base) hIG (small_ints hI (by omega))
 obtain ⟨id,ver,rfl,g1,hid⟩:=o1.pos (by omega)
 rw [rowE_iB] at g1
 have hl1:=x1.len
 have hidl:=lt_of_get g1
 obtain ⟨w2,H2,e2,rfl,eH2⟩:=run_delete (base:=base) (i:=f) g1 (by omega) hf hl
 have hH2l:H2.length=H1.length:=by rw [eH2,List.length_set]
 have g2:H2[id]?=some (iB (o.eraseIdx f++[0]) ver):=by rw [eH2,List.getElem?_set_self hidl]
 obtain ⟨k,ek⟩:∃ k,k=o.getD f 0:=⟨_,rfl⟩
 rw [← ek] at lf
 obtain ⟨H3,eH3⟩:∃ H3,H3=H2++[rowB [k] 0]:=⟨_,rfl⟩
 have x3:Ext H2 H3:=by rw [eH3];exact .app .refl
 have g3:H3[H2.length]?=some (rowB [k] 0):=by rw [eH3];exact get_eq rfl
 have hel:(o.eraseIdx f).length=o.length-1:=by rw [List.length_eraseIdx,if_pos hf]
 obtain ⟨w4,H4,e4,rfl,eH4⟩:=run_insert (base:=base) (t:=t) (x:=k) (x3.get g2) g3 (by omega) (by omega) (by omega) (by omega)
 rw [hel,show o.length-1+1=o.length by omega] at e4
 have hsm:0≤k ∨ k<0:=by omega
 have gm1:=x1.get gm
 have gm2:H2[h.length]?=some (mvB f t):=by rw [eH2,List.getElem?_set_ne (by omega)];exact gm1
 have gm3:=x3.get gm2
 have gm4:H4[h.length]?=some (mvB f t):=by rw [eH4,List.getElem?_set_ne (by omega)];exact gm3
 unfold mvB at eG gm gm1 gm2 gm3 gm4
 refine ret_raw func29 rfl (by kernel_rfl) ?_
 have hsp:=@Nat.succ_ne_zero;repeat' (first|simp (disch:=first|exact dq|fail) only [go_sem,↓reduceIte,hsp,← eG,gm,af,lf]|refine WP_drw ?_|refine cnd_intro (fun hsp=>?_) fun hsp=>?_)
 refine WPS_go ?_
 refine WP_wild [⟨3,3,13,⟨h.length,0,0⟩,.int .i64 (f:Int),7⟩,⟨5,3,15,⟨h.length,0,0⟩,.int .i64 (f:Int),7⟩,⟨9,3,19,⟨h.length,0,1⟩,.int .i64 (t:Int),12⟩] (by kernel_rfl) (by kernel_rfl) (by kernel_rfl) ⟨refsLow_int,refsLow_int,refsLow_int,trivial⟩ fun K hK=>?_
 iterate 14
  rw [TRS_cons]
  refine ⟨by first|(simp (disch:=first|exact dq|fail) only [go_sem,↓reduceIte,gm,gm1,gm2,gm3,gm4,e1,e2,← eH3,e4,ldsQ_cons,ldsQ_nil,grdQ_cons,grdQ_nil,if_true,Nat.reduceLeDiff];done)|exact trivial,?_⟩
  simp (disch:=first|exact dq|fail) only [go_sem,↓reduceIte,gm,gm1,gm2,gm3,gm4,e1,e2,← eH3,e4]
 rw [TRS_nil]
 refine ⟨by first|(simp (disch:=first|exact dq|fail) only [go_sem,↓reduceIte,gm,gm1,gm2,gm3,gm4,e1,e2,← eH3,e4,ldsQ_cons,ldsQ_nil,grdQ_cons,grdQ_nil,if_true,Nat.reduceLeDiff];done)|exact trivial,?_⟩
 subst hK
 have hsp:=@Nat.succ_ne_zero;repeat' (first|simp (disch:=first|exact dq|fail) only [go_sem,↓reduceIte,hsp]|refine WP_drw ?_|refine cnd_intro (fun hsp=>?_) fun hsp=>?_)
 have xh:Ext h H4:=by
  rw [eH4]
  refine Ext.set (Ext.trans ?_ x3) (by omega)
  rw [eH2]
  exact (xG.trans x1).set (by omega)
 refine ⟨xh,.inr ⟨id,ver,?_,?_,by omega,by rw [mvL_len hf ht];omega⟩⟩
 ·rw [mvL_len hf ht]
 ·rw [eH4,List.getElem?_set_self (by have:=x3.len;omega),rowE_iB,mvL,← ek]
end Go.AM
namespace Go.AM
open Go.Proofs.Tryz
attribute [-go_sem] put_ne put_same
attribute [local go_sem ↓] put_if
def knwM (o:List Int) (ok:Nat→Bool):Nat→List Int
 | 0=>o
 | i+1=>if ok i=true then knwM o ok i else (knwM o ok i).set i (-1)
theorem knwM_len {o:List Int} {ok:Nat→Bool}:∀ i,(knwM o ok i).length=o.length
 | 0=>rfl
 | i+1=>by rw [knwM];split<;>simp [knwM_len i]
theorem knwM_at {o:List Int} {ok:Nat→Bool} {p:Nat}:∀ {i},i≤o.length→(knwM o ok i).getD p 0=if p<i∧ok p=false then -1 else o.getD p 0
 | 0,_=>by rw [knwM,if_neg (by omega)]
 | i+1,hi=>by
  have ih:=knwM_at (o:=o) (ok:=ok) (p:=p) (i:=i) (by omega)
  rw [knwM]
  cases c:ok i with
  | true =>
   rw [if_pos rfl,ih]
   by_cases e:p=i
   ·rw [if_neg (by omega),if_neg (by rw [e,c];simp)]
   ·by_cases q:p<i∧ok p=false
    ·rw [if_pos q,if_pos ⟨by omega,q.2⟩]
    ·rw [if_neg q,if_neg (fun z=>q ⟨by omega,z.2⟩)]
  | false =>
   rw [if_neg (by simp),getD_setI (by rw [knwM_len];omega),ih]
   by_cases e:i=p
   ·rw [if_pos e,if_pos ⟨by omega,by rw [← e];exact c⟩]
   ·rw [if_neg e]
    by_cases q:p<i∧ok p=false
    ·rw [if_pos q,if_pos ⟨by omega,q.2⟩]
    ·rw [if_neg q,if_neg (fun z=>q ⟨by omega,z.2⟩)]
def allK (os:List (List Int)) (k:Int) (p:Nat):Bool:=os.all fun x=>decide (x.getD p 0=k)
theorem getD_ext {l m:List Int} (h:l.length=m.length) (q:∀ i,i<l.length→l.getD i 0=m.getD i 0):l=m:=by
 refine List.ext_getElem h fun i h1 h2=>?_
 have:=q i h1
 rwa [getD_at h1,getD_at h2] at this
theorem lst_getD {f:Nat→Int} {n i:Nat} (h:i<n):(lst f n).getD i 0=f i:=by
 exact lst_get h
theorem knwM_all {n:Nat} {os:List (List Int)} (h:(os.headD []).length=n):knwM (os.headD []) (fun p=>allK os ((os.headD []).getD p 0) p) n=knwL n os:=by
 refine getD_ext (by rw [knwM_len,h,knwL,lst_len]) fun i hi=>?_
 rw [knwM_len,h] at hi
 rw [knwM_at (by omega),knwL,lst_getD hi]
 show _=if allK os ((os.headD []).getD i 0) i=true then _ else _
 cases c:allK os ((os.headD []).getD i 0) i with
 | true=>rw [if_neg (by simp),if_pos rfl]
 | false=>rw [if_pos ⟨hi,rfl⟩,if_neg (by simp)]
theorem run_kn1 {base a b:Nat} {h:Heap} {y:AVal} {t:List Int} {p:Nat} {k:Int} (ga:h[a]?=some (nB (p:Int))) (gb:h[b]?=some (nB k)) (hO:Ints h y t) (hp:p<t.length) :
  callL prog raw base (.fn 106 [] [.ptr (some ⟨a,0,0⟩),.ptr (some ⟨b,0,0⟩)]) [y] h=some (.bool (decide (t.getD p 0=k)),h):=by
 have la:=lt_of_get ga
 have lb:=lt_of_get gb
 have oy:=hO.one
 have hb:=hO.1.1
 have ad:=adrI (i:=(p:Int)) (by omega) hO (by omega)
 rw [Int.toNat_natCast] at ad
 have ld:=loadI hO hp
 unfold nB at ga gb
 refine callL_run func106 rfl rfl ?_
 have hsp:=@Nat.succ_ne_zero;repeat' (first|simp (disch:=first|exact dq|fail) only [go_sem,↓reduceIte,hsp,ga,gb,ad,ld]|refine WP_drw ?_|refine cnd_intro (fun hsp=>?_) fun hsp=>?_)
 exact fB rfl
set_option maxRecDepth 100000 in
set_option maxHeartbeats 4000000 in
theorem run_Known {base:Nat} {h:Heap} {v:AVal} {L:Lac} (hb:base≤h.length) (hL:LacAt h v L) :
  Ret prog raw base (.fn 63 [] []) [v] h (fun w H=>Ext h H∧∃ x,w=.tuple [x,.int .i64 (kwnE L).2]∧OwnE encI 3 h.length H x (kwnE L).1):=by
 have hL0:=hL
 obtain ⟨cv,rv,rfl,hC,hR⟩:=hL
 have o1:=hC.one
 have o2:=hR.one
 obtain ⟨G0,eG0⟩:∃ G0,G0=h++[lacB L.T cv rv]:=⟨_,rfl⟩
 have x0:Ext h G0:=by rw [eG0];exact .app .refl
 have g0:G0[h.length]?=some (lacB L.T cv rv):=by rw [eG0];exact get_eq rfl
 have l0:G0.length=h.length+1:=by rw [eG0];simp
 obtain ⟨w1,H1,e1,x1,a,x,rfl,oa,hA,hD⟩:=run_found (base:=base) (h:=G0) (by omega) (hL0.ext x0)
 have ox:=hA.one
 have l1:=x1.len
 unfold lacB at eG0 g0
 by_cases c:(fndE L).2=0
 ·obtain ⟨c1,c2,c3⟩:=fndE_ok c
  obtain ⟨n,en⟩:∃ n,L.C.length=n:=⟨_,rfl⟩
  have hn7:1≤n∧n≤7:=by rw [← en];exact (chkL_iff.1 c1).n
  have hord:∀ o ∈ fnd L,Ord n o:=fun o ho=>by rw [← en];exact fnd_ord ho
  have r:kwnE L=(knwL n (fnd L),0):=by unfold kwnE;rw [if_pos c,en]
  rw [r]
  rw [c3] at hA e1
  have hAI:AllI G0.length H1 x (fnd L):=hA.all
  obtain ⟨vs,q1,q2',q3⟩:=hA
  have q2:vs.length=(fnd L).length:=q2'
  have hpos:0<(fnd L).length:=by cases q:fnd L with|nil=>exact absurd q c2|cons a b=>simp
  have hv0:vs[0]?=some vs[0]:=List.getElem?_eq_getElem (by omega)
  have ho:=q3 0 _ _ hv0 (head_at c2)
  obtain ⟨y,ey⟩:∃ y,y=vs[0]'(by rw [q2];exact hpos):=⟨_,rfl⟩
  rw [← ey] at hv0 ho
  have hfew:=fnd_few (L:=L) (by omega)
  have hRw:=q1.rows (show vs.length<2 ^ 60 by omega)
  have ad:=hRw.addr (P:=prog) (i:=((0:Nat):Int)) Fc.el32 Fc.ar32 (by omega) (by omega)
  have ld:loadP prog H1 22 (elAdr x 1 0 0)=some y:=hRw.cell (P:=prog) Fc.ty22 hv0 (o:=0) (a:=y) (by simp only [encZ,norm_one ho.one];rfl)
  rw [Int.toNat_natCast,Int.natCast_zero] at ad
  have oy:=ho.one
  have hz:encZ.z=1:=rfl
  rw [hz] at ad
  obtain ⟨o,eo⟩:∃ o,o=(fnd L).headD []:=⟨_,rfl⟩
  rw [← eo] at ho
  have hom:o ∈ fnd L:=by rw [eo];exact List.mem_of_getElem? (head_at c2)
  have hoo:=hord o hom
  have hol:=hoo.1
  have hIo:=ownE_ints ho (ord_small hoo (by omega))
  obtain ⟨v2,H2,e2,x2,o2⟩:=run_cloneE (base:=base) hIo (ord_small hoo (by omega))
  obtain ⟨id,ver,rfl,gid,hid⟩:=o2.pos (by omega)
  rw [rowE_iB] at gid
  have lid:=lt_of_get gid
  have l2:=x2.len
  obtain ⟨ok,eok⟩:∃ ok:Nat→Bool,ok=fun p=>allK (fnd L) (o.getD p 0) p:=⟨_,rfl⟩
  obtain ⟨D,eD⟩:∃ D:Nat→Heap,D=fun i=>H2.set id (iB (knwM o ok i) ver):=⟨_,rfl⟩
  have lD:∀ i,(D i).length=H2.length:=fun i=>by rw [eD];exact List.length_set
  have gD:∀ i,(D i)[id]?=some (iB (knwM o ok i) ver):=fun i=>by rw [eD];exact List.getElem?_set_self lid
  have xD:∀ i,Ext H1 (D i):=fun i=>by rw [eD];exact x2.set (by omega)
  have hD0:D 0=H2:=by rw [eD];exact set_id gid
  have hDs:∀ i j,(D i).set id (iB (knwM o ok j) ver)=D j:=fun i j=>by rw [eD];exact List.set_set ..
  have ln2:∀ {H:Heap},lenOpA prog H 22 (.slice (some ⟨id,ver,0⟩) o.length o.length)=some (.int .i64 (o.length:Int)):=fun {H}=>by simp [lenOpA,Fc.el22,lenA]
  refine ret_raw func63 rfl (by kernel_rfl) ?_
  have hsp:=@Nat.succ_ne_zero;repeat' (first|simp (disch:=first|exact dq|fail) only [go_sem,↓reduceIte,hsp,← eG0,g0,e1,eq_self,ad,ld,e2,ln2]|refine WP_drw ?_|refine cnd_intro (fun hsp=>?_) fun hsp=>?_)
  refine WP_count [(8,9),(25,37)] 0 o.length (Nat.zero_le _) (fun _ i fr K=>fr 25=.int .i64 (i:Int)∧Ext (D i) K) ?_ ?_ ?_
  ·exact ⟨by (simp (disch:=first|exact dq|fail) only [go_sem,↓reduceIte,Int.natCast_zero];first|done|rfl),by rw [hD0];exact .refl⟩
  ·rintro i fr K hi0 hi hA2 ⟨r25,xK⟩
   have p2:=hA2 2 rfl
   have p3:=hA2 3 rfl
   have p5:=hA2 5 rfl
   have p7:=hA2 7 rfl
   have p23:=hA2 23 rfl
   have p24:=hA2 24 rfl
   try simp (disch:=first|exact dq|fail) only [go_sem,↓reduceIte] at p2 p3 p5 p7 p23 p24
   have hlt:((i:Int)<(o.length:Int))=True:=eq_true (by omega)
   have lK:=xK.len
   have lDi:=lD i
   have gK:=xK.get (gD i)
   have hkl:=knwM_len (o:=o) (ok:=ok) i
   have adr:indexAddrA prog 22 (.slice (some ⟨id,ver,0⟩) o.length o.length) (.int .i64 (i:Int))=some (.ptr (some ⟨id,ver,i⟩)):=by
    rw [adr_sl Fc.el22 Fc.ar22 (by omega) (by omega),Int.toNat_natCast,Nat.mul_one,Nat.zero_add]
   obtain ⟨k,ek⟩:∃ k,k=o.getD i 0:=⟨_,rfl⟩
   have d1:loadP prog K 3 (.ptr (some ⟨id,ver,i⟩))=some (.int .i64 k):=by
    rw [load_eq,Fc.ty3,gK,ldB_ints (by omega),knwM_at (by omega),if_neg (by omega),ek]
   obtain ⟨K1,eK1⟩:∃ K1,K1=K++[nB (i:Int)]:=⟨_,rfl⟩
   obtain ⟨K2,eK2⟩:∃ K2,K2=K1++[nB k]:=⟨_,rfl⟩
   have y1:Ext K K1:=by rw [eK1];exact .app .refl
   have y2:Ext K1 K2:=by rw [eK2];exact .app .refl
   have lK1:K1.length=K.length+1:=by rw [eK1];simp
   have lK2:K2.length=K.length+2:=by rw [eK2];simp [lK1]
   have ga:K2[K.length]?=some (nB (i:Int)):=by rw [eK2];exact get_app (by rw [eK1];exact get_eq rfl)
   have gb:K2[K.length+1]?=some (nB k):=by rw [eK2];exact get_eq lK1.symm
   have xDK:=(xK.trans y1).trans y2
   have hev:=every_Z (base:=base) (b:=G0.length) (h:=K2) (v:=x) (g:=.fn 106 [] [.ptr (some ⟨K.length,0,0⟩),.ptr (some ⟨K.length+1,0,0⟩)]) (ts:=fnd L) (fun t=>decide (t.getD i 0=k)) (by omega) ⟨rfl,rfl,rfl⟩ (hAI.ext ((xD i).trans xDK)) (by omega)
    (fun z t ht hz=>run_kn1 (get_app ga) (get_app gb) ((ownE_ints hz (ord_small (hord t ht) (by omega))).ext (.app .refl)) (by have:=(hord t ht).1;omega))
   rw [show (fnd L).all (fun t=>decide (t.getD i 0=k))=ok i by rw [eok,ek];rfl] at hev
   obtain ⟨K3,eK3⟩:∃ K3,K3=K2++[evZ (.fn 106 [] [.ptr (some ⟨K.length,0,0⟩),.ptr (some ⟨K.length+1,0,0⟩)])]:=⟨_,rfl⟩
   rw [← eK3] at hev
   have y3:Ext K2 K3:=by rw [eK3];exact .app .refl
   have ga3:=y3.get ga
   have xD3:=xDK.trans y3
   have gK3:=xD3.get (gD i)
   have l3:=xD3.len
   unfold nB at eK1 eK2 ga3
   cases c5:ok i with
   | true =>
    rw [c5] at hev
    have hDi:D (i+1)=D i:=by rw [eD];simp only [knwM,if_pos c5]
    have hsp:=@Nat.succ_ne_zero;repeat' (first|simp (disch:=first|exact dq|fail) only [go_sem,↓reduceIte,hsp,r25,p2,p3,p5,p7,p23,p24,hlt,adr,d1,← eK1,← eK2,hev]|refine WP_drw ?_|refine cnd_intro (fun hsp=>?_) fun hsp=>?_)
    exact ⟨agq,by omega,by rw [hDi];exact xD3⟩
   | false =>
    rw [c5] at hev
    have hst:∀ {F:ABlk→Heap},stQ base id (some (iB (knwM o ok i) ver)) ver i [.int .i64 (-1)] F=some (F (iB ((knwM o ok i).set i (-1)) ver)):=fun {F}=>stQ_ints (by omega)
    have hkm:(knwM o ok i).set i (-1)=knwM o ok (i+1):=by rw [knwM,if_neg (by rw [c5];simp)]
    rw [hkm] at hst
    have hfin:Ext (D (i+1)) (K3.set id (iB (knwM o ok (i+1)) ver)):=by
     have:=xD3.set2 (i:=id) (k:=iB (knwM o ok (i+1)) ver) (by omega)
     rwa [hDs] at this
    have hsp:=@Nat.succ_ne_zero;repeat' (first|simp (disch:=first|exact dq|fail) only [go_sem,↓reduceIte,hsp,r25,p2,p3,p5,p7,p23,p24,hlt,adr,d1,← eK1,← eK2,hev,ga3,gK3,hst]|refine WP_drw ?_|refine cnd_intro (fun hsp=>?_) fun hsp=>?_)
    exact ⟨agq,by omega,hfin⟩
  ·rintro fr K hA2 ⟨r25,xK⟩
   have p2:=hA2 2 rfl
   have p3:=hA2 3 rfl
   have p5:=hA2 5 rfl
   have p7:=hA2 7 rfl
   have p23:=hA2 23 rfl
   have p24:=hA2 24 rfl
   try simp (disch:=first|exact dq|fail) only [go_sem,↓reduceIte] at p2 p3 p5 p7 p23 p24
   have hlt:((o.length:Int)<(o.length:Int))=False:=eq_false (by omega)
   have gK:=xK.get (gD o.length)
   have hfe:knwM o ok o.length=knwL n (fnd L):=by
    rw [eok,eo,← knwM_all (n:=n) (by rw [← eo];exact hol)]
    rw [← eo,hol]
   have hsp:=@Nat.succ_ne_zero;repeat' (first|simp (disch:=first|exact dq|fail) only [go_sem,↓reduceIte,hsp,r25,p2,p3,p5,p7,p23,p24,hlt]|refine WP_drw ?_|refine cnd_intro (fun hsp=>?_) fun hsp=>?_)
   refine ⟨((x0.trans x1).trans (xD _)).trans xK,_,rfl,.inl (.inr ⟨id,ver,?_,?_,by omega,?_⟩)⟩
   ·rw [← hfe,knwM_len]
   ·rw [gK,rowE_iB,hfe]
   ·rw [← hfe,knwM_len];omega
 ·have t0:((fndE L).2=0)=False:=eq_false c
  have r:kwnE L=([],(fndE L).2):=by unfold kwnE;rw [if_neg c]
  rw [r]
  refine ret_raw func63 rfl (by kernel_rfl) ?_
  have hsp:=@Nat.succ_ne_zero;repeat' (first|simp (disch:=first|exact dq|fail) only [go_sem,↓reduceIte,hsp,← eG0,g0,e1,t0]|refine WP_drw ?_|refine cnd_intro (fun hsp=>?_) fun hsp=>?_)
  exact ⟨x0.trans x1,_,rfl,.inl Own.nil⟩
end Go.AM
namespace Go.AM
open Go.Proofs.Tryz
attribute [-go_sem] put_ne put_same
attribute [local go_sem ↓] put_if
def kyN (l o:List Int) (i:Nat):List Int:=((l.take i).map fun p=>o.getD p.toNat 0)++List.replicate (7-i) 0
theorem kyN_len {l o:List Int} {i:Nat} (hi:i≤l.length) (hl:l.length≤7):(kyN l o i).length=7:=by
 unfold kyN;simp;omega
theorem kyN_step {l o:List Int} {i:Nat} (hi:i<l.length) (hl:l.length≤7):(kyN l o i).set i (o.getD (l.getD i 0).toNat 0)=kyN l o (i+1):=by
 unfold kyN
 rw [List.set_append_right _ _ (by simp;omega),take_succ' hi,List.map_append]
 have:i-((l.take i).map fun p=>o.getD p.toNat 0).length=0:=by simp;omega
 rw [this,show 7-i=(7-(i+1))+1 by omega,List.replicate_succ,List.set_cons_zero]
 simp
def kyA (l o:List Int):List Int:=keyL l o++List.replicate (7-l.length) 0
theorem kyN_all {l o:List Int}:kyN l o l.length=kyA l o:=by unfold kyN kyA keyL;rw [List.take_length]
theorem kyA_len {l o:List Int} (hl:l.length≤7):(kyA l o).length=7:=by rw [← kyN_all];exact kyN_len (Nat.le_refl _) hl
theorem kyA_nodup {l:List Int} {os:List (List Int)}:(os.map (kyA l)).Nodup ↔ (os.map (keyL l)).Nodup:=by
 rw [List.nodup_iff_pairwise_ne,List.nodup_iff_pairwise_ne,List.pairwise_map,List.pairwise_map]
 constructor
 ·exact fun h=>h.imp fun {a b} q e=>q (by unfold kyA;rw [e])
 ·exact fun h=>h.imp fun {a b} q e=>q (List.append_cancel_right e)
abbrev mbB (m:Nat):ABlk:=⟨.cells [.map (some m)] 137 false false,0⟩
abbrev kyB (k:List Int):ABlk:=⟨.cells (ints k) 138 false false,0⟩
theorem ld_key {H:Heap} {K:Nat} {k:List Int} (hg:H[K]?=some (kyB k)) (hk:k.length=7):loadP prog H 138 (.ptr (some ⟨K,0,0⟩))=some (.agg (ints k)):=by
 have hl:(ints k).length=7:=by simp [ints,hk]
 rw [load_eq,Fc.ty138,hg,ldB_agg (by omega),List.drop_zero,List.take_of_length_le (by omega)]
set_option maxRecDepth 100000 in
set_option maxHeartbeats 2000000 in
theorem run_key {base A M m n:Nat} {H:Heap} {lv ov:AVal} {l o:List Int} {ks:List (List Int)} (hb:base≤m) (gA:H[A]?=some (lB lv)) (gM:H[M]?=some (mbB m)) (gm:H[m]?=some ⟨.map (mpK ks),0⟩) (hI:Ints H lv l) (hO:Ints H ov o) (hl:l.length≤7) (hin:∀ x ∈ l,0≤x∧x<(o.length:Int)) (hks:∀ x ∈ ks,x.length=7) :
  ∃ H',callL prog raw base (.fn 115 [] [.ptr (some ⟨A,0,0⟩),.ptr (some ⟨M,0,0⟩)]) [ov] H=some (.bool (decide (kyA l o ∉ ks)),H')∧KeepX m H H'∧(kyA l o ∉ ks→H'[m]?=some ⟨.map (mpK (ks++[kyA l o])),0⟩):=by
 have olv:=hI.one
 have oov:=hO.one
 have lA:=lt_of_get gA
 have lM:=lt_of_get gM
 have lm:=lt_of_get gm
 have hAm:A ≠ m:=fun e=>by rw [e,gm] at gA;simp at gA
 have hMm:M ≠ m:=fun e=>by rw [e,gm] at gM;simp at gM
 obtain ⟨G,eG⟩:∃ G,G=H++[kyB (kyN l o 0)]:=⟨_,rfl⟩
 have xG:Ext H G:=by rw [eG];exact .app .refl
 have hz:ints (lst (fun _=>0) 7)=ints (kyN l o 0):=rfl
 have gAG:=xG.get gA
 have hlo:=lenI (hI.ext xG)
 have main:Ret prog raw base (.fn 115 [] [.ptr (some ⟨A,0,0⟩),.ptr (some ⟨M,0,0⟩)]) [ov] H (fun v H'=>v=.bool (decide (kyA l o ∉ ks))∧KeepX m H H'∧(kyA l o ∉ ks→H'[m]?=some ⟨.map (mpK (ks++[kyA l o])),0⟩)):=by
  unfold lB at gA gAG
  unfold kyB at eG
  refine ret_raw func115 rfl (by kernel_rfl) ?_
  have hsp:=@Nat.succ_ne_zero;repeat' (first|simp (disch:=first|exact dq|fail) only [go_sem,↓reduceIte,hsp,hz,← eG,gAG,hlo]|refine WP_drw ?_|refine cnd_intro (fun hsp=>?_) fun hsp=>?_)
  refine WP_count [(6,7),(11,22)] 0 l.length (Nat.zero_le _) (fun _ i fr K=>fr 11=.int .i64 (i:Int)∧K=H++[kyB (kyN l o i)]) ?_ ?_ ?_
  ·exact ⟨by (simp (disch:=first|exact dq|fail) only [go_sem,↓reduceIte,Int.natCast_zero];first|done|rfl),eG⟩
  ·rintro i fr K hi0 hi hA2 ⟨r11,eK⟩
   have q0:=hA2 0 rfl
   have q2:=hA2 2 rfl
   have q4:=hA2 4 rfl
   have q5:=hA2 5 rfl
   have q9:=hA2 9 rfl
   have q10:=hA2 10 rfl
   try simp (disch:=first|exact dq|fail) only [go_sem,↓reduceIte] at q0 q2 q4 q5 q9 q10
   have hlt:((i:Int)<(l.length:Int))=True:=eq_true (by omega)
   have xK:Ext H K:=by rw [eK];exact .app .refl
   have gK:K[H.length]?=some (kyB (kyN l o i)):=by rw [eK];exact get_eq rfl
   have iL:=hI.ext xK
   have iO:=hO.ext xK
   have ai:=adrI (i:=(i:Int)) (by omega) iL (by omega)
   rw [Int.toNat_natCast] at ai
   have li:=loadI iL hi
   have hp:=hin _ (getD_mem hi)
   obtain ⟨p,ep⟩:=Int.eq_ofNat_of_zero_le hp.1
   rw [ep] at li hp
   have ap:=adrI (i:=(p:Int)) (by omega) iO (by omega)
   rw [Int.toNat_natCast] at ap
   have lp:=loadI iO (i:=p) (by omega)
   have ad:=Fc.ad138 (id:=H.length) (ver:=0) (o:=0) (i:=(i:Int)) (by omega) (by omega)
   rw [Int.toNat_natCast,Nat.mul_one,Nat.zero_add] at ad
   have hkl:=kyN_len (l:=l) (o:=o) (i:=i) (by omega) hl
   have hst:∀ {F:ABlk→Heap},stQ base H.length (some (kyB (kyN l o i))) 0 i [.int .i64 (o.getD p 0)] F=some (F (kyB (kyN l o (i+1)))):=fun {F}=>by
    rw [stQ_ints (by omega),← kyN_step hi hl,ep,Int.toNat_natCast]
   have hset:K.set H.length (kyB (kyN l o (i+1)))=H++[kyB (kyN l o (i+1))]:=by
    rw [eK,List.set_append_right _ _ (Nat.le_refl _),Nat.sub_self];rfl
   unfold kyB at gK hst
   have hsp:=@Nat.succ_ne_zero;repeat' (first|simp (disch:=first|exact dq|fail) only [go_sem,↓reduceIte,hsp,r11,q0,q2,q4,q5,q9,q10,hlt,ai,li,ap,lp,ad,gK,hst]|refine WP_drw ?_|refine cnd_intro (fun hsp=>?_) fun hsp=>?_)
   exact ⟨agq,by omega,hset⟩
  ·rintro fr K hA2 ⟨r11,eK⟩
   have q0:=hA2 0 rfl
   have q2:=hA2 2 rfl
   have q4:=hA2 4 rfl
   have q5:=hA2 5 rfl
   have q9:=hA2 9 rfl
   have q10:=hA2 10 rfl
   try simp (disch:=first|exact dq|fail) only [go_sem,↓reduceIte] at q0 q2 q4 q5 q9 q10
   have hlt:((l.length:Int)<(l.length:Int))=False:=eq_false (by omega)
   have xK:Ext H K:=by rw [eK];exact .app .refl
   have gK:K[H.length]?=some (kyB (kyN l o l.length)):=by rw [eK];exact get_eq rfl
   rw [kyN_all] at gK
   have hkl:=kyA_len (l:=l) (o:=o) hl
   have lk:=ld_key gK hkl
   have gMK:=xK.get gM
   have gmK:=xK.get gm
   have lkp:=look_K gmK hkl hks
   obtain ⟨k,ek⟩:∃ k,k=kyA l o:=⟨_,rfl⟩
   rw [← ek] at gK lk lkp hkl ⊢
   by_cases c:k ∈ ks
   ·obtain ⟨es,up⟩:=upd_K2 (base:=base) hb gmK hkl hks c
    rw [decide_eq_true c] at lkp
    obtain ⟨K2,eK2⟩:∃ K2,K2=K.set m ⟨.map es,0⟩:=⟨_,rfl⟩
    rw [← eK2] at up
    unfold mbB at gMK
    have hsp:=@Nat.succ_ne_zero;repeat' (first|simp (disch:=first|exact dq|fail) only [go_sem,↓reduceIte,hsp,r11,q0,q2,q4,q5,q9,q10,hlt,gMK,lk,lkp,up]|refine WP_drw ?_|refine cnd_intro (fun hsp=>?_) fun hsp=>?_)
    exact ⟨by simp [c],by rw [eK2];exact (KeepX.ofExt xK).set,fun q=>absurd c q⟩
   ·have up:=upd_K (base:=base) hb gmK hkl hks c
    rw [decide_eq_false c] at lkp
    obtain ⟨K2,eK2⟩:∃ K2,K2=K.set m ⟨.map (mpK (ks++[k])),0⟩:=⟨_,rfl⟩
    rw [← eK2] at up
    unfold mbB at gMK
    have hsp:=@Nat.succ_ne_zero;repeat' (first|simp (disch:=first|exact dq|fail) only [go_sem,↓reduceIte,hsp,r11,q0,q2,q4,q5,q9,q10,hlt,gMK,lk,lkp,up]|refine WP_drw ?_|refine cnd_intro (fun hsp=>?_) fun hsp=>?_)
    exact ⟨by simp [c],by rw [eK2];exact (KeepX.ofExt xK).set,fun _=>by rw [eK2,List.getElem?_set_self (lt_of_get gmK)]⟩
 obtain ⟨v,H',e,rfl,k1,k2⟩:=main
 exact ⟨H',e,k1,k2⟩
end Go.AM
