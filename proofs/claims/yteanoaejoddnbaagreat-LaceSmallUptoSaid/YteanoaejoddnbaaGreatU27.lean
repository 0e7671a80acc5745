/-
  The reference: whether piles show an order (Shows).
-/
import Derived.Test.YteanoaejoddnbaaGreatU26
set_option linter.unusedSimpArgs false
set_option linter.unusedVariables false
namespace Go.AM
open Go.Proofs.Tryz
attribute [-go_sem] put_ne put_same
attribute [local go_sem ↓] put_if
def encO:Enc Bool:=⟨1,fun b=>[.bool b],fun _=>rfl,by decide⟩
theorem encO_sc:∀ y,(encO.cells y).all AVal.scalar=true:=fun _=>rfl
theorem flat_encO:∀ (l:List Bool),flat encO l=l.map AVal.bool
 | []=>rfl
 | x :: l=>by
  have:=flat_encO l
  simp only [flat,List.flatMap_cons,List.map_cons] at this ⊢
  rw [this];rfl
def mrk (n:Nat) (S:List Int):List Bool:=(List.range n).map fun k:Nat=>decide ((k:Int) ∈ S)
theorem mrk_len {n:Nat} {S:List Int}:(mrk n S).length=n:=by simp [mrk]
theorem mrk_at {n k:Nat} {S:List Int} (hk:k<n):(mrk n S)[k]?=some (decide ((k:Int) ∈ S)):=by
 unfold mrk
 rw [List.getElem?_map,List.getElem?_range hk];rfl
theorem mrk_set {n k:Nat} {S:List Int}:(mrk n S).set k true=mrk n (S++[(k:Int)]):=by
 refine List.ext_getElem? fun i=>?_
 by_cases hi:i<n
 ·rw [mrk_at hi]
  by_cases e:k=i
  ·subst e
   rw [List.getElem?_set_self (by rw [mrk_len];exact hi)]
   simp
  ·rw [List.getElem?_set_ne e,mrk_at hi]
   congr 1
   refine decide_eq_decide.2 ⟨fun q=>by simp [q],fun q=>?_⟩
   rcases List.mem_append.1 q with q|q
   ·exact q
   ·simp at q;omega
 ·rw [List.getElem?_eq_none (by rw [List.length_set,mrk_len];omega),List.getElem?_eq_none (by rw [mrk_len];omega)]
theorem mrk_nil {n:Nat}:mrk n []=List.replicate n false:=by
 refine List.ext_getElem? fun i=>?_
 by_cases hi:i<n
 ·rw [mrk_at hi,List.getElem?_replicate,if_pos hi];rfl
 ·rw [List.getElem?_eq_none (by rw [mrk_len];omega),List.getElem?_eq_none (by simp;omega)]
abbrev mkB (n:Nat) (S:List Int):ABlk:=rowE encO 4 (mrk n S) 0
theorem ld_mrk {K:Heap} {id n k:Nat} {S:List Int} (hg:K[id]?=some (mkB n S)) (hk:k<n):loadP prog K 4 (.ptr (some ⟨id,0,k⟩))=some (.bool (decide ((k:Int) ∈ S))):=by
 rw [load_eq,Fc.ty4,hg,mkB,rowE,ldB_cell,flat_encO,List.getElem?_map,mrk_at hk]
 rfl
theorem st_mrk {base id n k:Nat} {S:List Int} {F:ABlk→Heap} (hk:k<n) (hb:base≤id):stQ base id (some (mkB n S)) 0 k [.bool true] F=some (F (mkB n (S++[(k:Int)]))):=by
 have:=stQ_rowE (E:=encO) (e:=4) (l:=mrk n S) (i:=k) (base:=base) (id:=id) (ver:=0) (x:=true) (K:=F) (by rw [mrk_len];exact hk) (encO_sc true) hb
 rw [mrk_set] at this
 have e1:k * encO.z=k:=Nat.mul_one k
 rw [e1] at this
 exact this
theorem shw_tw {o:List Int} {ps:List (List Int)} (hc:aloL o=0) (h:twB ps.flatten=true):shwE o ps=(0,8):=by
 unfold shwE
 rw [if_neg (by simp [hc])]
 split
 ·rfl
 ·rw [if_pos (.inr h)]
theorem pre_tw {ps:List (List Int)} {i j:Nat} {t:List Int} (hi:ps[i]?=some t) (hj:j<t.length) (hm:t.getD j 0 ∈ (ps.take i).flatten++t.take j):twB ps.flatten=true:=by
 unfold twB
 refine decide_eq_true fun hn=>?_
 have e1:ps.flatten=(ps.take i).flatten++(t++(ps.drop (i+1)).flatten):=by
  obtain ⟨h1,h2⟩:=List.getElem?_eq_some_iff.1 hi
  conv=>lhs;rw [← List.take_append_drop i ps,List.drop_eq_getElem_cons h1,h2]
  simp
 have e2:t=t.take j++t.getD j 0 :: t.drop (j+1):=by
  conv=>lhs;rw [← List.take_append_drop j t,List.drop_eq_getElem_cons hj,← getD_at (d:=0) hj]
 rw [e1,e2] at hn
 have hn2:((ps.take i).flatten++t.take j++[t.getD j 0]).Nodup:=by
  refine hn.sublist ?_
  rw [List.append_assoc,List.append_assoc]
  refine (List.Sublist.refl _).append ?_
  refine (List.Sublist.refl _).append ?_
  rw [List.cons_append]
  exact List.Sublist.cons_cons _ (List.nil_sublist _)
 exact (nodup_snoc.1 hn2).2 hm
set_option maxRecDepth 100000 in
set_option maxHeartbeats 8000000 in
theorem run_rShows {base:Nat} {h:Heap} {v pv:AVal} {o:List Int} {ps:List (List Int)} (hI:Ints h v o) (hc:aloL o=0) (hP:RelZ h pv ps) (hl:ps.length≤1000) (hpl:∀ p ∈ ps,p.length≤1000) :
  callL prog raw base (.fn 35 [] []) [v,pv] h=some (.tuple [.int .i64 (shwE o ps).1,.int .i64 (shwE o ps).2],h):=by
 have ov:=hI.one
 have op:=hP.one
 obtain ⟨c1,c2,c3⟩:=aloL_iff.1 hc
 have hlo:=lenI hI
 obtain ⟨n,en⟩:∃ n,n=o.length:=⟨_,rfl⟩
 rw [← en] at hlo c1
 obtain ⟨G,eG⟩:∃ G,G=h++[mkB n []]:=⟨_,rfl⟩
 have xG:Ext h G:=by rw [eG];exact .app .refl
 have mk:makeSliceA prog h 120 (.int .i64 (n:Int)) (.int .i64 (n:Int))=some (.slice (some ⟨h.length,0,0⟩) n n,G):=by
  rw [make_full Fc.el120 (by omega) (by omega),eG,mkB,rowE,mrk_nil,← rep_flat]
  rfl
 have hlp:=fun {K} (e:Ext h K)=>(hP.ext e).len
 have hloK:=fun {K} (e:Ext h K)=>lenI (hI.ext e)
 refine callL_run func35 rfl rfl ?_
 have hsp:=@Nat.succ_ne_zero;repeat' (first|simp (disch:=first|exact dq|fail) only [go_sem,↓reduceIte,hsp,hlo,mk]|refine WP_drw ?_|refine cnd_intro (fun hsp=>?_) fun hsp=>?_)
 refine WP_count [(4,5),(7,89)] 0 ps.length (Nat.zero_le _) (fun _ i fr K=>fr 8=.int .i64 (i:Int)∧K=h++[mkB n (ps.take i).flatten]∧fr 7=.int .i64 ((ps.take i).flatten.length:Int)∧(ps.take i).all (pilB o)=true∧(ps.take i).flatten.Nodup∧(ps.take i).flatten.length≤i * 1000) ?_ ?_ ?_
 ·exact ⟨by (simp (disch:=first|exact dq|fail) only [go_sem,↓reduceIte,Int.natCast_zero];first|done|rfl),eG,by simp (disch:=first|exact dq|fail) only [go_sem,↓reduceIte];rfl,rfl,by simp,by simp⟩
 ·rintro i fr K hi0 hi hA ⟨r8,eK,r7,hall,hnd,hfl⟩
  have q0:=hA 0 rfl
  have q1:=hA 1 rfl
  have q6:=hA 6 rfl
  try simp (disch:=first|exact dq|fail) only [go_sem,↓reduceIte] at q0 q1 q6
  have hlt:((i:Int)<(ps.length:Int))=True:=eq_true (by omega)
  have xK:Ext h K:=by rw [eK];exact .app .refl
  obtain ⟨t,et⟩:∃ t,t=ps[i]:=⟨_,rfl⟩
  have hpi:ps[i]?=some t:=by rw [et];exact List.getElem?_eq_getElem hi
  have hp1:=hpl t (List.mem_of_getElem? hpi)
  obtain ⟨a,z,ad,ld,iz⟩:=hP.at hl hpi
  have oz:=iz.one
  have ldK:=ld K xK
  have hlz:=lenI (iz.ext xK)
  have lpK:=hlp xK
  have hfail:pilB o t=false→shwE o ps=(0,8):=fun q=>by
   unfold shwE
   rw [if_neg (by simp [hc]),if_pos (all_no hpi q)]
  have htk:ps.take (i+1)=ps.take i++[t]:=by rw [List.take_add_one,hpi];rfl
  have hft:(ps.take (i+1)).flatten=(ps.take i).flatten++t:=by rw [htk];simp
  by_cases y0:t=[]
  ·have t0:((t.length:Int)=0)=True:=eq_true (by rw [y0];rfl)
   have hsp:=@Nat.succ_ne_zero;repeat' (first|simp (disch:=first|exact dq|fail) only [go_sem,↓reduceIte,hsp,r8,r7,q0,q1,q6,hlt,lpK,ad,ldK,hlz,t0]|refine WP_drw ?_|refine cnd_intro (fun hsp=>?_) fun hsp=>?_)
   rw [hfail (by unfold pilB;rw [decide_eq_false (fun z=>z y0),Bool.false_and])]
   exact fII rfl rfl xK
  have hpos:0<t.length:=List.length_pos_iff.2 y0
  have t0:((t.length:Int)=0)=False:=eq_false (by omega)
  have hsp:=@Nat.succ_ne_zero;repeat' (first|simp (disch:=first|exact dq|fail) only [go_sem,↓reduceIte,hsp,r8,r7,q0,q1,q6,hlt,lpK,ad,ldK,hlz,t0]|refine WP_drw ?_|refine cnd_intro (fun hsp=>?_) fun hsp=>?_)
  refine WP_count [(4,5),(7,7),(9,89)] 0 t.length (Nat.zero_le _) (fun _ j fr X=>fr 9=.int .i64 (j:Int)∧X=h++[mkB n ((ps.take i).flatten++t.take j)]∧fr 7=.int .i64 (((ps.take i).flatten++t.take j).length:Int)∧((ps.take i).flatten++t.take j).Nodup∧∀ m,m<j→badAt o t m=false) ?_ ?_ ?_
  ·exact ⟨by (simp (disch:=first|exact dq|fail) only [go_sem,↓reduceIte,Int.natCast_zero];first|done|rfl),by rw [eK];simp,by simp (disch:=first|exact dq|fail) only [go_sem,↓reduceIte,r7];try simp,by simpa using hnd,fun m hm=>by omega⟩
  ·rintro j fr2 X hj0 hj hA2 ⟨r9,eX,s7,hnd2,hno⟩
   have d0:=hA2 0 rfl
   have d1:=hA2 1 rfl
   have d6:=hA2 6 rfl
   have d8:=hA2 8 rfl
   try simp (disch:=first|exact dq|fail) only [go_sem,↓reduceIte,q0,q1,q6] at d0 d1 d6 d8
   have d8:=hA2 8 rfl
   simp (disch:=first|exact dq|fail) only [go_sem,↓reduceIte,r8] at d8
   have hlt2:((j:Int)<(t.length:Int))=True:=eq_true (by omega)
   obtain ⟨S,eS⟩:∃ S,S=(ps.take i).flatten++t.take j:=⟨_,rfl⟩
   rw [← eS] at eX s7 hnd2
   have hSl:S.length≤2000000:=by rw [eS,List.length_append,List.length_take];have:i * 1000≤1000 * 1000:=Nat.mul_le_mul_right _ (by omega);omega
   have xX:Ext h X:=by rw [eX];exact .app .refl
   have gX:X[h.length]?=some (mkB n S):=by rw [eX];exact get_eq rfl
   have ldX:=ld X xX
   have iX:=iz.ext xX
   have iO:=hI.ext xX
   have hlX:=lenI iX
   have hoX:=hloK xX
   rw [← en] at hoX
   have aj:=adrI (i:=(j:Int)) (by omega) iX (by omega)
   rw [Int.toNat_natCast] at aj
   have lj:=loadI iX hj
   obtain ⟨p,ep⟩:∃ p,p=t.getD j 0:=⟨_,rfl⟩
   rw [← ep] at lj
   have hof:=fun base h=>run_off (base:=base) (h:=h) (n:=p) (lo:=0) (hi:=(n:Int)-1)
   have hend:=fun z=>hfail (pilB_bad hj z)
   have skp:badAt o t j=false→∀ m,m<j+1→badAt o t m=false:=fun z m hm=>by
    by_cases e:m=j
    ·rw [e];exact z
    ·exact hno m (by omega)
   have hS2:(ps.take i).flatten++t.take (j+1)=S++[p]:=by rw [take_succ' hj,← List.append_assoc,← eS,← ep]
   rw [hS2]
   by_cases y1:0≤p∧p≤(n:Int)-1
   ·rw [decide_eq_true y1] at hof
    obtain ⟨k,ek⟩:=Int.eq_ofNat_of_zero_le y1.1
    have hkn:k<n:=by omega
    have ak:indexAddrA prog 120 (.slice (some ⟨h.length,0,0⟩) n n) (.int .i64 p)=some (.ptr (some ⟨h.length,0,k⟩)):=by
     rw [ek,adr_sl Fc.el120 Fc.ar120 (by omega) (by omega),Int.toNat_natCast,Nat.mul_one,Nat.zero_add]
    have lk:=ld_mrk gX hkn
    rw [← ek] at lk
    by_cases y2:p ∈ S
    ·rw [decide_eq_true y2] at lk
     have hsp:=@Nat.succ_ne_zero;repeat' (first|simp (disch:=first|exact dq|fail) only [go_sem,↓reduceIte,hsp,r9,s7,d8,d0,d1,d6,d8,q0,q1,q6,ad,ldX,hlX,hlt2,aj,lj,hoX,hof,Bool.not_true,ak,lk]|refine WP_drw ?_|refine cnd_intro (fun hsp=>?_) fun hsp=>?_)
     rw [shw_tw hc (pre_tw hpi hj (by rw [← eS,← ep];exact y2))]
     exact fII rfl rfl xX
    ·rw [decide_eq_false y2] at lk
     have hst:=fun {F:ABlk→Heap}=>st_mrk (base:=h.length) (id:=h.length) (n:=n) (S:=S) (F:=F) hkn (Nat.le_refl _)
     rw [← ek] at hst
     obtain ⟨Y,eY⟩:∃ Y,Y=X.set h.length (mkB n (S++[p])):=⟨_,rfl⟩
     have eY':Y=h++[mkB n (S++[p])]:=by rw [eY,eX,List.set_append_right _ _ (Nat.le_refl _),Nat.sub_self];rfl
     have xY:Ext h Y:=by rw [eY'];exact .app .refl
     have ldY:=ld Y xY
     have iY:=iz.ext xY
     have jO:=hI.ext xY
     have nd3:(S++[p]).Nodup:=nodup_snoc.2 ⟨hnd2,y2⟩
     have hlen:((S.length:Int)+1)=((S++[p]).length:Int):=by simp
     have tin:badAt o t j=(decide (0<j) && (decide (p≤t.getD (j-1) 0) || decide (o.getD p.toNat 0 ≥ o.getD (t.getD (j-1) 0).toNat 0))):=by
      unfold badAt
      rw [← ep,← en,decide_eq_true y1];rfl
     by_cases y3:0<j
     ·have t3:((j:Int) > 0)=True:=eq_true (by omega)
      have t4:((j:Int)-1)=((j-1:Nat):Int):=by omega
      have aj1:=adrI (i:=((j-1:Nat):Int)) (by omega) iY (by omega)
      rw [Int.toNat_natCast] at aj1
      have lj1:=loadI iY (i:=j-1) (by omega)
      have hpr:=badAt_in (hno (j-1) (by omega))
      obtain ⟨p1,ep1⟩:∃ p1,p1=t.getD (j-1) 0:=⟨_,rfl⟩
      rw [← ep1] at lj1 hpr tin
      rw [decide_eq_true y3,Bool.true_and] at tin
      have a1:=adrI (i:=p) (by omega) jO (by omega)
      have l1:=loadI jO (i:=p.toNat) (by omega)
      have a2:=adrI (i:=p1) (by omega) jO (by omega)
      have l2:=loadI jO (i:=p1.toNat) (by omega)
      by_cases y4:p≤p1
      ·have t5:(p≤p1)=True:=eq_true y4
       have hsp:=@Nat.succ_ne_zero;repeat' (first|simp (disch:=first|exact dq|fail) only [go_sem,↓reduceIte,hsp,r9,s7,d8,d0,d1,d6,d8,q0,q1,q6,ad,ldX,hlX,hlt2,aj,lj,hoX,hof,Bool.not_true,ak,lk,gX,hst,← eY,ldY,t3,t4,aj1,lj1,t5]|refine WP_drw ?_|refine cnd_intro (fun hsp=>?_) fun hsp=>?_)
       rw [hend (by rw [tin,decide_eq_true y4];rfl)]
       exact fII rfl rfl xY
      ·have t5:(p≤p1)=False:=eq_false y4
       by_cases y5:o.getD p.toNat 0 ≥ o.getD p1.toNat 0
       ·have t6:(o.getD p.toNat 0 ≥ o.getD p1.toNat 0)=True:=eq_true y5
        have hsp:=@Nat.succ_ne_zero;repeat' (first|simp (disch:=first|exact dq|fail) only [go_sem,↓reduceIte,hsp,r9,s7,d8,d0,d1,d6,d8,q0,q1,q6,ad,ldX,hlX,hlt2,aj,lj,hoX,hof,Bool.not_true,ak,lk,gX,hst,← eY,ldY,t3,t4,aj1,lj1,t5,a1,l1,a2,l2,t6]|refine WP_drw ?_|refine cnd_intro (fun hsp=>?_) fun hsp=>?_)
        rw [hend (by rw [tin,decide_eq_true y5,Bool.or_true])]
        exact fII rfl rfl xY
       ·have t6:(o.getD p.toNat 0 ≥ o.getD p1.toNat 0)=False:=eq_false y5
        have hsp:=@Nat.succ_ne_zero;repeat' (first|simp (disch:=first|exact dq|fail) only [go_sem,↓reduceIte,hsp,r9,s7,d8,d0,d1,d6,d8,q0,q1,q6,ad,ldX,hlX,hlt2,aj,lj,hoX,hof,Bool.not_true,ak,lk,gX,hst,← eY,ldY,t3,t4,aj1,lj1,t5,a1,l1,a2,l2,t6]|refine WP_drw ?_|refine cnd_intro (fun hsp=>?_) fun hsp=>?_)
        exact ⟨agq,by omega,eY',by omega,nd3,skp (by rw [tin,decide_eq_false y4,decide_eq_false y5];rfl)⟩
     ·have t3:((j:Int) > 0)=False:=eq_false (by omega)
      rw [decide_eq_false y3,Bool.false_and] at tin
      have hsp:=@Nat.succ_ne_zero;repeat' (first|simp (disch:=first|exact dq|fail) only [go_sem,↓reduceIte,hsp,r9,s7,d8,d0,d1,d6,d8,q0,q1,q6,ad,ldX,hlX,hlt2,aj,lj,hoX,hof,Bool.not_true,ak,lk,gX,hst,← eY,t3]|refine WP_drw ?_|refine cnd_intro (fun hsp=>?_) fun hsp=>?_)
      exact ⟨agq,by omega,eY',by omega,nd3,skp tin⟩
   ·rw [decide_eq_false y1] at hof
    have hsp:=@Nat.succ_ne_zero;repeat' (first|simp (disch:=first|exact dq|fail) only [go_sem,↓reduceIte,hsp,r9,s7,d8,d0,d1,d6,d8,q0,q1,q6,ad,ldX,hlX,hlt2,aj,lj,hoX,hof,Bool.not_false]|refine WP_drw ?_|refine cnd_intro (fun hsp=>?_) fun hsp=>?_)
    rw [hend (by unfold badAt;rw [← ep,← en,decide_eq_false y1];rfl)]
    exact fII rfl rfl xX
  ·rintro fr2 X hA2 ⟨r9,eX,s7,hnd2,hno⟩
   have d0:=hA2 0 rfl
   have d1:=hA2 1 rfl
   have d6:=hA2 6 rfl
   have d8:=hA2 8 rfl
   try simp (disch:=first|exact dq|fail) only [go_sem,↓reduceIte,q0,q1,q6] at d0 d1 d6 d8
   have d8:=hA2 8 rfl
   simp (disch:=first|exact dq|fail) only [go_sem,↓reduceIte,r8] at d8
   have hlt2:((t.length:Int)<(t.length:Int))=False:=eq_false (by omega)
   have xX:Ext h X:=by rw [eX];exact .app .refl
   have ldX:=ld X xX
   have hlX:=lenI (iz.ext xX)
   rw [List.take_length,← hft] at eX s7 hnd2
   have hok:=pilB_ok y0 hno
   have hsp:=@Nat.succ_ne_zero;repeat' (first|simp (disch:=first|exact dq|fail) only [go_sem,↓reduceIte,hsp,r9,s7,d8,d0,d1,d6,d8,q0,q1,q6,ad,ldX,hlX,hlt2]|refine WP_drw ?_|refine cnd_intro (fun hsp=>?_) fun hsp=>?_)
   refine ⟨agq,by omega,eX,by rw [htk,List.all_append,hall];simp [hok],hnd2,?_⟩
   rw [hft,List.length_append];omega
 ·rintro fr K hA ⟨r8,eK,r7,hall,hnd,hfl⟩
  have q0:=hA 0 rfl
  have q1:=hA 1 rfl
  have q6:=hA 6 rfl
  try simp (disch:=first|exact dq|fail) only [go_sem,↓reduceIte] at q0 q1 q6
  have hlt:((ps.length:Int)<(ps.length:Int))=False:=eq_false (by omega)
  have xK:Ext h K:=by rw [eK];exact .app .refl
  have lpK:=hlp xK
  have hoK:=hloK xK
  rw [← en] at hoK
  rw [List.take_length] at r7 hall hnd
  have htw:twB ps.flatten=false:=decide_eq_false (fun q=>q hnd)
  by_cases y1:ps.flatten.length=n
  ·have t1:((ps.flatten.length:Int)=(n:Int))=True:=eq_true (by omega)
   have r:shwE o ps=((ps.length:Int),0):=by
    unfold shwE
    rw [if_neg (by simp [hc]),if_neg (by rw [hall];decide),if_neg (by rw [htw,← en];simp [y1])]
   rw [r]
   have hsp:=@Nat.succ_ne_zero;repeat' (first|simp (disch:=first|exact dq|fail) only [go_sem,↓reduceIte,hsp,r8,r7,q0,q1,q6,hlt,lpK,hoK,t1,not_true,decide_false]|refine WP_drw ?_|refine cnd_intro (fun hsp=>?_) fun hsp=>?_)
   exact fII rfl rfl xK
  ·have t1:((ps.flatten.length:Int)=(n:Int))=False:=eq_false (by omega)
   have r:shwE o ps=(0,8):=by
    unfold shwE
    rw [if_neg (by simp [hc]),if_neg (by rw [hall];decide),if_pos (.inl (by rw [← en];exact y1))]
   rw [r]
   have hsp:=@Nat.succ_ne_zero;repeat' (first|simp (disch:=first|exact dq|fail) only [go_sem,↓reduceIte,hsp,r8,r7,q0,q1,q6,hlt,lpK,hoK,t1,not_false_iff,decide_true]|refine WP_drw ?_|refine cnd_intro (fun hsp=>?_) fun hsp=>?_)
   exact fII rfl rfl xK
end Go.AM
namespace Go.AM
open Go.Proofs.Tryz
attribute [-go_sem] put_ne put_same
attribute [local go_sem ↓] put_if
theorem riseL_small {o:List Int} (hl:o.length≤1000):Small (riseL o):=by
 have h:=(riseP_iff.1 (riseL_is o).1).1
 exact ⟨by have:=sub_len h;omega,fun x hx=>by have:=upto_mem.1 (h.subset hx);omega⟩
theorem risE_small {o:List Int} (hl:o.length≤1000):Small (risE o).1:=by
 unfold risE
 split
 ·exact riseL_small hl
 ·exact ⟨by simp,by simp⟩
theorem makF_or {n:Nat}:∀ {ms:List (Int × Int)} {o:List Int},o.length=n→(makF n ms o).1=[] ∨ (makF n ms o).1.Perm o
 | [],o,_=>.inr (.refl _)
 | m :: ms,o,ho=>by
  rw [makF]
  split
  ·rename_i c
   have hp:=mvL_perm (o:=o) (f:=m.1.toNat) (t:=m.2.toNat) (by omega) (by omega)
   rcases makF_or (ms:=ms) (o:=mvL o m.1.toNat m.2.toNat) (by rw [hp.length_eq,ho]) with q|q
   ·exact .inl q
   ·exact .inr (q.trans hp)
  ·exact .inl rfl
theorem makE_small {o:List Int} {ms:List (Int × Int)} (hs:Small o):Small (makE o ms).1:=by
 unfold makE
 split
 ·rcases makF_or (n:=o.length) (ms:=ms) (o:=o) rfl with q|q
  ·rw [q];exact ⟨by simp,by simp⟩
  ·exact perm_small' q hs
 ·exact ⟨by simp,by simp⟩
theorem RelZ.small {H:Heap} {v:AVal} {ps:List (List Int)} (h:RelZ H v ps) (hl:∀ t ∈ ps,t.length≤12):∀ t ∈ ps,t.length≤1000∧Small t:=fun t ht=>by
 obtain ⟨vs,h1,h2,h3⟩:=h
 obtain ⟨i,hi,e⟩:=List.mem_iff_getElem.1 ht
 have hx:vs[i]?=some (vs[i]'(by omega)):=List.getElem?_eq_getElem (by omega)
 have:=h3 i _ t hx (by rw [← e];exact List.getElem?_eq_getElem hi)
 have hl':=hl t ht
 exact ⟨by omega,by omega,this.1.2⟩
theorem e_vals {o:List Int}:(risE o).2=aloL o∧(pilE o).2=aloL o∧(mndE o).2=aloL o:=by
 unfold risE pilE mndE
 refine ⟨?_,?_,?_⟩<;>split<;>simp_all
theorem pil_in {o:List Int} (h:Ord (o.length:Nat) o) {t:List Int} (ht:t ∈ pilN o o.length):t.length≤o.length∧∀ x ∈ t,0≤x∧x<(o.length:Int):=by
 have hp:=(pilN_ok (ord_dist h) (Nat.le_refl _)).all
 have hs:t.Sublist (pilN o o.length).flatten:=List.sublist_flatten_of_mem ht
 refine ⟨?_,fun x hx=>upto_mem.1 (hp.mem_iff.1 (hs.subset hx))⟩
 have:=hs.length_le
 rw [hp.length_eq,upto_len] at this
 exact this
theorem pil_len {o:List Int} (h:Ord (o.length:Nat) o) (hl:o.length≤7) {t:List Int} (ht:t ∈ pilN o o.length):t.length≤1000:=by
 have:=(pil_in h ht).1;omega
theorem pil_bd {o:List Int} (h:Ord (o.length:Nat) o) (hl:o.length≤7) {t:List Int} (ht:t ∈ pilN o o.length):Small t :=
 ⟨by have:=(pil_in h ht).1;omega,fun x hx=>by have:=(pil_in h ht).2 x hx;omega⟩
theorem pil_hd {o:List Int} (h:Ord (o.length:Nat) o) {i:Nat} {t u:List Int} (h1:(pilN o o.length)[i]?=some t) (h2:(pilN o o.length)[i+1]?=some u):0<t.length∧0<u.length∧t.getD 0 0<u.getD 0 0:=by
 have hp:=pilN_ok (ord_dist h) (Nat.le_refl _)
 have n1:=hp.ne t (List.mem_of_getElem? h1)
 have n2:=hp.ne u (List.mem_of_getElem? h2)
 have:=hp.hd i (i+1) (by omega) (List.getElem?_eq_some_iff.1 h2).1
 rw [List.getD_eq_getElem?_getD,List.getD_eq_getElem?_getD,h1,h2] at this
 match t,u,n1,n2 with
 | x :: t,y :: u,_,_=>exact ⟨by simp,by simp,this⟩
theorem pilE_few {o:List Int}:(pilE o).1.length≤7:=by
 unfold pilE
 split
 ·rename_i c
  obtain ⟨c1,c2,c3⟩:=aloL_iff.1 c
  obtain ⟨a1,a2,a3,a4,a5,a6,a7,a8⟩:=ord_all5 ⟨c1,c2⟩ c3
  simp only
  omega
 ·simp
theorem mndE_few {o:List Int}:(mndE o).1.length≤7:=by
 unfold mndE
 split
 ·rename_i c
  obtain ⟨c1,c2,c3⟩:=aloL_iff.1 c
  obtain ⟨a1,a2,a3,a4,a5,a6,a7,a8⟩:=ord_all5 ⟨c1,c2⟩ c3
  simp only
  omega
 ·simp
set_option maxRecDepth 100000 in
set_option maxHeartbeats 16000000 in
theorem run_LaceMends {base:Nat} {h:Heap} {v0 v1 v2:AVal} (hO0:IntsN 1048576 h v0) (hP0:PilN 1048576 h v1) (hM0:MovN 1048576 h v2) :
  callL prog raw base (.fn 9 [] []) [v0,v1,v2] h=some (.bool true,h):=by
 obtain ⟨o,hO,-⟩:=hO0
 obtain ⟨ps,hP,hpn,-⟩:=hP0
 obtain ⟨ms,hM,hmn⟩:=hM0
 have o1:=hO.one
 have o2:=hP.one
 have o3:=hM.one
 have hlo:=lenI hO
 have hlp:=hP.len
 have hlm:=hM.len (P:=prog) Fc.el37
 have haw:=fun base h=>run_awake (base:=base) (h:=h)
 refine callL_run func9 rfl rfl ?_
 by_cases g1:12<o.length
 ·have t1:((o.length:Int) > 12)=True:=eq_true (by omega)
  have hsp:=@Nat.succ_ne_zero;repeat' (first|simp (disch:=first|exact dq|fail) only [go_sem,↓reduceIte,hsp,hlo,t1,haw]|refine WP_drw ?_|refine cnd_intro (fun hsp=>?_) fun hsp=>?_)
  exact fB rfl
 have t1:((o.length:Int) > 12)=False:=eq_false (by omega)
 by_cases g2:12<ps.length
 ·have t2:((ps.length:Int) > 12)=True:=eq_true (by omega)
  have hsp:=@Nat.succ_ne_zero;repeat' (first|simp (disch:=first|exact dq|fail) only [go_sem,↓reduceIte,hsp,hlo,t1,hlp,t2,haw]|refine WP_drw ?_|refine cnd_intro (fun hsp=>?_) fun hsp=>?_)
  exact fB rfl
 have t2:((ps.length:Int) > 12)=False:=eq_false (by omega)
 by_cases g3:40<ms.length
 ·have t3:((ms.length:Int) > 40)=True:=eq_true (by omega)
  have hsp:=@Nat.succ_ne_zero;repeat' (first|simp (disch:=first|exact dq|fail) only [go_sem,↓reduceIte,hsp,hlo,t1,hlp,t2,hlm,t3,haw]|refine WP_drw ?_|refine cnd_intro (fun hsp=>?_) fun hsp=>?_)
  exact fB rfl
 have t3:((ms.length:Int) > 40)=False:=eq_false (by omega)
 have hsp:=@Nat.succ_ne_zero;repeat' (first|simp (disch:=first|exact dq|fail) only [go_sem,↓reduceIte,hsp,hlo,t1,hlp,t2,hlm,t3]|refine WP_drw ?_|refine cnd_intro (fun hsp=>?_) fun hsp=>?_)
 refine WP_count [(6,8),(55,63)] 0 ps.length (Nat.zero_le _) (fun _ i fr K=>fr 55=.int .i64 (i:Int)∧K=h∧∀ t ∈ ps.take i,t.length≤12) ?_ ?_ ?_
 ·exact ⟨by (simp (disch:=first|exact dq|fail) only [go_sem,↓reduceIte,Int.natCast_zero];first|done|rfl),rfl,by simp⟩
 ·rintro i fr K hi0 hi hA ⟨r55,rfl,hall⟩
  have q0:=hA 0 rfl
  have q1:=hA 1 rfl
  have q2:=hA 2 rfl
  have q53:=hA 53 rfl
  have q54:=hA 54 rfl
  try simp (disch:=first|exact dq|fail) only [go_sem,↓reduceIte] at q0 q1 q2 q53 q54
  have hlt:((i:Int)<(ps.length:Int))=True:=eq_true (by omega)
  obtain ⟨t,et⟩:∃ t,t=ps[i]:=⟨_,rfl⟩
  have hx:ps[i]?=some t:=by rw [et];exact List.getElem?_eq_getElem hi
  obtain ⟨a,w,ad,ld,iw⟩:=hP.at (by omega) hx
  have ldK:=ld K .refl
  have ow:=iw.one
  have hlw:=lenI iw
  have htk:ps.take (i+1)=ps.take i++[t]:=by rw [List.take_add_one,hx];rfl
  by_cases g:12<t.length
  ·have u1:((t.length:Int) > 12)=True:=eq_true (by omega)
   have hsp:=@Nat.succ_ne_zero;repeat' (first|simp (disch:=first|exact dq|fail) only [go_sem,↓reduceIte,hsp,r55,q0,q1,q2,q53,q54,hlt,ad,ldK,hlw,u1,haw]|refine WP_drw ?_|refine cnd_intro (fun hsp=>?_) fun hsp=>?_)
   exact fB rfl
  ·have u1:((t.length:Int) > 12)=False:=eq_false (by omega)
   have hsp:=@Nat.succ_ne_zero;repeat' (first|simp (disch:=first|exact dq|fail) only [go_sem,↓reduceIte,hsp,r55,q0,q1,q2,q53,q54,hlt,ad,ldK,hlw,u1]|refine WP_drw ?_|refine cnd_intro (fun hsp=>?_) fun hsp=>?_)
   refine ⟨agq,by omega,fun x hx2=>?_⟩
   rw [htk] at hx2
   rcases List.mem_append.1 hx2 with z|z
   ·exact hall x z
   ·rw [List.mem_singleton] at z;rw [z];omega
 rintro fr K hA ⟨r55,eKK,hall⟩
 have q0:=hA 0 rfl
 have q1:=hA 1 rfl
 have q2:=hA 2 rfl
 have q53:=hA 53 rfl
 have q54:=hA 54 rfl
 try simp (disch:=first|exact dq|fail) only [go_sem,↓reduceIte] at q0 q1 q2 q53 q54
 rw [eKK]
 have hlt:((ps.length:Int)<(ps.length:Int))=False:=eq_false (by omega)
 rw [List.take_length] at hall
 have hsm:=hP.small hall
 have hso:Small o:=⟨by omega,hO.1.2⟩
 obtain ⟨ow,G1,e1,x1,oO⟩:=run_dupI (base:=h.length) (h:=h) (by omega) hO (by omega)
 have l1:=x1.len
 obtain ⟨pw,G2,e2,x2,rP2⟩:=run_dupZ (base:=h.length) (h:=G1) (by omega) (hP.ext x1) (by omega) hsm
 have l2:=x2.len
 obtain ⟨nw,G3,e3,x3,oM⟩:=run_dupM (base:=h.length) (h:=G2) (by omega) (hM.ext (x1.trans x2)) (by omega)
 have l3:=x3.len
 have oow:=oO.one
 have opw:=rP2.one
 have onw:=oM.one
 have xh3:Ext h G3:=(x1.trans x2).trans x3
 have iO3:Ints G3 ow o:=(ownE_ints oO hso).ext (x2.trans x3)
 have rP3:RelZ G3 pw ps:=rP2.ext x3
 have rM3:Rows encM G3 nw ms:=oM.rows (by omega)
 have hal:=fun base=>run_ralone (base:=base) (hO.ext xh3)
 by_cases c:aloL o=0
 ·rw [c] at hal
  obtain ⟨k1,k2,k3⟩:=aloL_iff.1 c
  obtain ⟨a1,a2,a3,a4,a5,a6,a7,a8⟩:=ord_all5 ⟨k1,k2⟩ k3
  obtain ⟨xr,G4,e4,x4,oX⟩:=run_rRise (base:=h.length) (h:=G3) (by omega) (hO.ext xh3) k2
  have oxr:=oX.one
  have l4:=x4.len
  have xh4':=xh3.trans x4
  have e5:=fun base=>run_rShows (base:=base) (hO.ext xh4') c (hP.ext xh4') (by omega) (fun p hp=>(hsm p hp).1)
  have hlm4:=(hM.ext xh4').len (P:=prog) Fc.el37
  have hsp:=@Nat.succ_ne_zero;repeat' (first|simp (disch:=first|exact dq|fail) only [go_sem,↓reduceIte,hsp,r55,q0,q1,q2,q53,q54,hlt,e1,e2,e3,hal,eq_self,e4,e5,hlm4]|refine WP_drw ?_|refine cnd_intro (fun hsp=>?_) fun hsp=>?_)
  obtain ⟨n,en⟩:∃ n,n=o.length:=⟨_,rfl⟩
  have mE:makE o ms=makF n ms o:=by unfold makE;rw [if_pos c,en]
  refine WP_cmeet [(14,14),(17,20),(87,102)] 0 ms.length (Nat.zero_le _) (fun _ i fr K=>fr 87=.int .i64 (i:Int)∧Ext G4 K∧fr 14=.int .i64 0∧∃ o' w,fr 17=w∧Ints K w o'∧o'.Perm o∧makF n ms o=makF n (ms.drop i) o') (fun fr K=>Ext G4 K∧fr 14=.int .i64 (makE o ms).2∧∃ w,fr 17=w∧Ints K w (makE o ms).1) ?_ ?_ ?_ ?_
  ·exact ⟨by (simp (disch:=first|exact dq|fail) only [go_sem,↓reduceIte,Int.natCast_zero];first|done|rfl),.refl,by simp (disch:=first|exact dq|fail) only [go_sem,↓reduceIte],o,v0,by simp (disch:=first|exact dq|fail) only [go_sem,↓reduceIte,q0,q1,q2,q53,q54],hO.ext xh4',.refl _,rfl⟩
  ·rintro i fr2 K hi0 hi hA2 ⟨r87,xK,r14,o',w,r17,iW,hp,hF⟩
   have d0:=hA2 0 rfl
   have d1:=hA2 1 rfl
   have d2:=hA2 2 rfl
   have d6:=hA2 6 rfl
   have d9:=hA2 9 rfl
   have d10:=hA2 10 rfl
   have d11:=hA2 11 rfl
   have d12:=hA2 12 rfl
   have d13:=hA2 13 rfl
   have d15:=hA2 15 rfl
   have d16:=hA2 16 rfl
   have d85:=hA2 85 rfl
   have d86:=hA2 86 rfl
   try simp (disch:=first|exact dq|fail) only [go_sem,↓reduceIte,q0,q1,q2] at d0 d1 d2 d6 d9 d10 d11 d12 d13 d15 d16 d85 d86
   have hlt2:((i:Int)<(ms.length:Int))=True:=eq_true (by omega)
   obtain ⟨⟨a,b⟩,em⟩:∃ m,ms[i]=m:=⟨_,rfl⟩
   have hx:ms[i]?=some (a,b):=by rw [List.getElem?_eq_getElem hi,em]
   have hMK:=hM.ext (xh4'.trans xK)
   have ad:=hMK.addr (P:=prog) (i:=(i:Int)) Fc.el37 Fc.ar37 (by omega) (by omega)
   rw [Int.toNat_natCast] at ad
   have ld:=hMK.load (P:=prog) Fc.ty41 hx
   simp only [encM] at ad ld
   have ow1:=iW.one
   have hKl:=xK.len
   have hol:o'.length=n:=by rw [hp.length_eq,en]
   obtain ⟨G,eG⟩:∃ G,G=K++[mvB a b]:=⟨_,rfl⟩
   have xG:Ext K G:=by rw [eG];exact .app .refl
   have gG:G[K.length]?=some (mvB a b):=by rw [eG];exact get_eq rfl
   have hGl:=xG.len
   have hst:makF n (ms.drop i) o'=if (0≤a∧a<(n:Int))∧(0≤b∧b<(n:Int)) then makF n (ms.drop (i+1)) (mvL o' a.toNat b.toNat) else ([],1):=by
    rw [List.drop_eq_getElem_cons hi,em,makF]
   obtain ⟨_,K2,e6,x6,yw,rfl,oY⟩:=run_rMake (base:=h.length) (h:=G) (f:=a) (t:=b) (by omega) (iW.ext xG) (by omega) (perm_small' hp hso)
   have oyw:=oY.one
   rw [hol] at e6 oY
   unfold mvB at eG gG
   by_cases g:(0≤a∧a<(n:Int))∧(0≤b∧b<(n:Int))
   ·rw [decide_eq_true g] at e6
    rw [if_pos g] at oY hst
    have hp2:=(mvL_perm (o:=o') (f:=a.toNat) (t:=b.toNat) (by omega) (by omega)).trans hp
    have hsp:=@Nat.succ_ne_zero;repeat' (first|simp (disch:=first|exact dq|fail) only [go_sem,↓reduceIte,hsp,r87,r14,r17,d0,d1,d2,d6,d9,d10,d11,d12,d13,d15,d16,d85,d86,q0,q1,q2,q53,q54,hlt2,ad,ld,← eG,gG,e6,Bool.not_true]|refine WP_drw ?_|refine cnd_intro (fun hsp=>?_) fun hsp=>?_)
    exact ⟨agq,by omega,xK.trans (xG.trans x6),_,yw,rfl,own_ints oY (perm_small' hp2 hso),hp2,by rw [hF,hst]⟩
   ·rw [decide_eq_false g] at e6
    rw [if_neg g] at oY hst
    have hz:makE o ms=([],1):=by rw [mE,hF,hst]
    have hsp:=@Nat.succ_ne_zero;repeat' (first|simp (disch:=first|exact dq|fail) only [go_sem,↓reduceIte,hsp,r87,r14,r17,d0,d1,d2,d6,d9,d10,d11,d12,d13,d15,d16,d85,d86,q0,q1,q2,q53,q54,hlt2,ad,ld,← eG,gG,e6,Bool.not_false]|refine WP_drw ?_|refine cnd_intro (fun hsp=>?_) fun hsp=>?_)
    exact ⟨agq,xK.trans (xG.trans x6),by rw [hz],yw,rfl,by rw [hz];exact own_ints oY ⟨by simp,by simp⟩⟩
  ·rintro fr2 K hA2 ⟨r87,xK,r14,o',w,r17,iW,hp,hF⟩
   have d0:=hA2 0 rfl
   have d1:=hA2 1 rfl
   have d2:=hA2 2 rfl
   have d6:=hA2 6 rfl
   have d9:=hA2 9 rfl
   have d10:=hA2 10 rfl
   have d11:=hA2 11 rfl
   have d12:=hA2 12 rfl
   have d13:=hA2 13 rfl
   have d15:=hA2 15 rfl
   have d16:=hA2 16 rfl
   have d85:=hA2 85 rfl
   have d86:=hA2 86 rfl
   try simp (disch:=first|exact dq|fail) only [go_sem,↓reduceIte,q0,q1,q2] at d0 d1 d2 d6 d9 d10 d11 d12 d13 d15 d16 d85 d86
   have hlt2:((ms.length:Int)<(ms.length:Int))=False:=eq_false (by omega)
   have hz:makE o ms=(o',0):=by rw [mE,hF,List.drop_length,makF]
   have hsp:=@Nat.succ_ne_zero;repeat' (first|simp (disch:=first|exact dq|fail) only [go_sem,↓reduceIte,hsp,r87,r14,r17,d0,d1,d2,d6,d9,d10,d11,d12,d13,d15,d16,d85,d86,q0,q1,q2,q53,q54,hlt2]|refine WP_drw ?_|refine cnd_intro (fun hsp=>?_) fun hsp=>?_)
   exact ⟨agq,xK,by rw [hz],w,rfl,by rw [hz];exact iW⟩
  ·rintro fr2 K hA2 ⟨xK4,r14,x17,r17,iM⟩
   have d0:=hA2 0 rfl
   have d1:=hA2 1 rfl
   have d2:=hA2 2 rfl
   have d6:=hA2 6 rfl
   have d9:=hA2 9 rfl
   have d10:=hA2 10 rfl
   have d11:=hA2 11 rfl
   have d12:=hA2 12 rfl
   have d13:=hA2 13 rfl
   have d15:=hA2 15 rfl
   have d16:=hA2 16 rfl
   have d85:=hA2 85 rfl
   have d86:=hA2 86 rfl
   try simp (disch:=first|exact dq|fail) only [go_sem,↓reduceIte,q0,q1,q2] at d0 d1 d2 d6 d9 d10 d11 d12 d13 d15 d16 d85 d86
   have xK:=x4.trans xK4
   have ox17:=iM.one
   have iR:Ints K xr (risE o).1:=by rw [a2];exact (own_ints oX (riseL_small (by omega))).ext xK4
   have lK:=xK.len
   have i9:=iO3.ext xK
   have z10:=rP3.ext xK
   have m11:=rM3.ext xK
   obtain ⟨_,Z1,c1,z1,yw,rfl,oR⟩:=run_Rise (base:=h.length) (by omega) i9
   have oyw:=oR.one
   have lz1:=z1.len
   obtain ⟨_,Z2,c2,z2,pw',vs,rfl,oP⟩:=run_Piles (base:=h.length) (by omega) (i9.ext z1)
   have opw':=oP.own.one
   have lz2:=z2.len
   have z12:=z1.trans z2
   have c3:=fun base=>run_ShowsZ (base:=base) (i9.ext z12) (z10.ext z12) (by omega) hsm
   obtain ⟨_,Z3,c4,z3,dw,rfl,oD⟩:=run_Mend (base:=h.length) (by omega) (i9.ext z12)
   have odw:=oD.one
   have lz3:=z3.len
   have z13:=z12.trans z3
   obtain ⟨_,Z4,c5,z4,ew,rfl,oE⟩:=run_Make (base:=h.length) (by omega) (i9.ext z13) (m11.ext z13) (by omega)
   have oew:=oE.one
   have lz4:=z4.len
   have z14:=z13.trans z4
   obtain ⟨v1,v2,v3⟩:=@e_vals o
   rw [v1] at c1
   rw [v2] at c2
   rw [v3] at c4
   have xh4:=xh3.trans (xK.trans z14)
   have j1:=own_ints (oR.ext ((z2.trans z3).trans z4)) (risE_small (by omega))
   have j2:=ownE_ints oE (makE_small hso)
   have w1:=fun base=>run_eqI (base:=base) j1 (iR.ext z14)
   have w2:=fun base=>run_eqI (base:=base) j2 (iM.ext z14)
   have w3:=fun base=>run_eqI (base:=base) (i9.ext z14) (hO.ext xh4)
   rw [decide_eq_true rfl] at w1 w2 w3
   have w4:=fun base=>run_eqZ (base:=base) (z10.ext z14) (hP.ext xh4) (by omega)
   have w5:=fun base=>run_eqM (base:=base) (m11.ext z14) (hM.ext xh4) (by omega)
   have oP4:=(oP.all).ext (z3.trans z4)
   have lP4:=oP4.len (by have:=pilE_few (o:=o);omega)
   have oD4:=oD.ext z4
   have lD4:=(oD4.rows (by have:=mndE_few (o:=o);omega)).len (P:=prog) Fc.el37
   have zP:RelZ Z4 pw' (pilN o o.length):=by
    obtain ⟨vs',y1,y2,y3⟩:=oP4
    rw [a3] at y2 y3
    have y2:vs'.length=(pilN o o.length).length:=y2
    refine ⟨vs',y1.rows (by omega),y2,fun i x t p1 p2=>?_⟩
    have hm:=List.mem_of_getElem? p2
    have hbd:=pil_bd k3 k2 hm
    exact ownE_ints (y3 i x t p1 p2) hbd
   have c6:=fun base=>run_rShows (base:=base) (hO.ext xh4) c zP (by omega) (fun p hp=>(pil_len k3 k2 hp))
   rw [a4] at c6
   have hlr:=lenI (iR.ext z14)
   have hlo4:=lenI (hO.ext xh4)
   rw [a2] at hlr
   rw [a3] at lP4
   rw [a6] at lD4 oD4
   have u1:((o.length:Int)-((riseL o).length:Int))=((mndL o).length:Int):=by omega
   have hsp:=@Nat.succ_ne_zero;repeat' (first|simp (disch:=first|exact dq|fail) only [go_sem,↓reduceIte,hsp,r14,r17,d0,d1,d2,d6,d9,d10,d11,d12,d13,d15,d16,d85,d86,q0,q1,q2,q53,q54,c1,c2,c3,c4,c5,c,eq_self,not_true,decide_false,decide_true,w1,w2,w3,w4,w5,c6,hlr,hlo4,lD4,u1]|refine WP_drw ?_|refine cnd_intro (fun hsp=>?_) fun hsp=>?_)
   obtain ⟨m,em⟩:∃ m,m=(pilN o o.length).length:=⟨_,rfl⟩
   have lP:lenOpA prog Z4 32 pw'=some (.int .i64 (m:Int)):=by rw [em];exact lP4
   have hm7:m≤7:=by omega
   obtain ⟨k,ek⟩:∃ k,k=max 1 m:=⟨_,rfl⟩
   refine WP_count [(6,6),(33,242)] 1 k (by omega) (fun _ i fr X=>fr 33=.int .i64 (i:Int)∧X=Z4) ?_ ?_ ?_
   ·exact ⟨by (simp (disch:=first|exact dq|fail) only [go_sem,↓reduceIte,Int.natCast_zero];first|done|rfl),rfl⟩
   ·rintro i fr3 X hi0 hi hA3 ⟨r33,eX⟩
    have s0:=hA3 0 rfl
    have s23:=hA3 23 rfl
    have s27:=hA3 27 rfl
    try simp (disch:=first|exact dq|fail) only [go_sem,↓reduceIte,d0] at s0 s23 s27
    rw [eX]
    have him:i<m:=by omega
    have hlt3:((i:Int)<(m:Int))=True:=eq_true (by omega)
    have hs1:((i:Int)-1)=((i-1:Nat):Int):=by omega
    obtain ⟨t,et⟩:∃ t,t=(pilN o o.length)[i]'(by omega):=⟨_,rfl⟩
    have hxt:(pilN o o.length)[i]?=some t:=by rw [et];exact List.getElem?_eq_getElem (by omega)
    obtain ⟨u,eu⟩:∃ u,u=(pilN o o.length)[i-1]'(by omega):=⟨_,rfl⟩
    have hxu:(pilN o o.length)[i-1]?=some u:=by rw [eu];exact List.getElem?_eq_getElem (by omega)
    obtain ⟨n1,n2,n3⟩:=pil_hd k3 hxu (by rw [show i-1+1=i by omega];exact hxt)
    obtain ⟨p1,w1',ad1,ld1,it⟩:=zP.at (by omega) hxt
    obtain ⟨p2,w2',ad2,ld2,iu⟩:=zP.at (by omega) hxu
    have ld1':=ld1 Z4 .refl
    have ld2':=ld2 Z4 .refl
    have ot:=it.one
    have ou:=iu.one
    have at0:=adrI (i:=((0:Nat):Int)) (by omega) it (by omega)
    have au0:=adrI (i:=((0:Nat):Int)) (by omega) iu (by omega)
    rw [Int.toNat_natCast,Int.natCast_zero] at at0 au0
    have lt0:=loadI it (i:=0) n2
    have lu0:=loadI iu (i:=0) n1
    have u2:(t.getD 0 0<u.getD 0 0)=False:=eq_false (by omega)
    have hsp:=@Nat.succ_ne_zero;repeat' (first|simp (disch:=first|exact dq|fail) only [go_sem,↓reduceIte,hsp,r33,s0,s23,s27,d0,d1,d2,d6,d9,d10,d11,d12,d13,d15,d16,d85,d86,lP,hlt3,hs1,ad1,ld1',at0,lt0,ad2,ld2',au0,lu0,u2]|refine WP_drw ?_|refine cnd_intro (fun hsp=>?_) fun hsp=>?_)
    exact ⟨agq,by omega⟩
   ·rintro fr3 X hA3 ⟨r33,eX⟩
    have s0:=hA3 0 rfl
    have s23:=hA3 23 rfl
    have s27:=hA3 27 rfl
    try simp (disch:=first|exact dq|fail) only [go_sem,↓reduceIte,d0] at s0 s23 s27
    rw [eX]
    have hlt3:((k:Int)<(m:Int))=False:=eq_false (by omega)
    obtain ⟨b1,b2,b3⟩:=mndL_ok k3
    have rD:Rows encM Z4 dw (mndL o):=oD4.rows (show (mndL o).length<2 ^ 60 by omega)
    have hD4:=lD4
    have hsp:=@Nat.succ_ne_zero;repeat' (first|simp (disch:=first|exact dq|fail) only [go_sem,↓reduceIte,hsp,r33,s0,s23,s27,d0,d1,d2,d6,d9,d10,d11,d12,d13,d15,d16,d85,d86,lP,hlt3,hD4]|refine WP_drw ?_|refine cnd_intro (fun hsp=>?_) fun hsp=>?_)
    refine WP_count [(6,36),(246,261)] 0 (mndL o).length (Nat.zero_le _) (fun _ i fr K=>fr 246=.int .i64 (i:Int)∧Ext Z4 K∧∃ o' w,fr 17=w∧Ints K w o'∧o'.Perm o∧makF o.length (mndL o) o=makF o.length ((mndL o).drop i) o') ?_ ?_ ?_
    ·exact ⟨by (simp (disch:=first|exact dq|fail) only [go_sem,↓reduceIte,Int.natCast_zero];first|done|rfl),.refl,o,v0,by simp (disch:=first|exact dq|fail) only [go_sem,↓reduceIte,s0,s23,s27,d0,d1,d2,d6,d9,d10,d11,d12,d13,d15,d16,d85,d86,q0,q1,q2,q53,q54],hO.ext xh4,.refl _,rfl⟩
    ·rintro i fr4 K hi0 hi hA4 ⟨r246,xK5,o',w,s17,iW,hp,hF⟩
     have u244:=hA4 244 rfl
     have u245:=hA4 245 rfl
     try simp (disch:=first|exact dq|fail) only [go_sem,↓reduceIte] at u244 u245
     have hlt4:((i:Int)<((mndL o).length:Int))=True:=eq_true (by omega)
     obtain ⟨⟨a,b⟩,emm⟩:∃ m,(mndL o)[i]=m:=⟨_,rfl⟩
     have hx:(mndL o)[i]?=some (a,b):=by rw [List.getElem?_eq_getElem hi,emm]
     have g:=b2 _ (List.mem_of_getElem? hx)
     simp only at g
     have hMK:=rD.ext xK5
     have ad:=hMK.addr (P:=prog) (i:=(i:Int)) Fc.el37 Fc.ar37 (by omega) (by omega)
     rw [Int.toNat_natCast] at ad
     have ld:=hMK.load (P:=prog) Fc.ty41 hx
     simp only [encM] at ad ld
     have ow1:=iW.one
     have hKl:=xK5.len
     have hol:o'.length=o.length:=hp.length_eq
     obtain ⟨G,eG⟩:∃ G,G=K++[mvB a b]:=⟨_,rfl⟩
     have xG:Ext K G:=by rw [eG];exact .app .refl
     have gG:G[K.length]?=some (mvB a b):=by rw [eG];exact get_eq rfl
     have hGl:=xG.len
     have hst:makF o.length ((mndL o).drop i) o'=makF o.length ((mndL o).drop (i+1)) (mvL o' a.toNat b.toNat):=by
      rw [List.drop_eq_getElem_cons hi,emm,makF,if_pos g]
     obtain ⟨_,K2,e6,x6,yw',rfl,oY⟩:=run_rMake (base:=h.length) (h:=G) (f:=a) (t:=b) (by omega) (iW.ext xG) (by omega) (perm_small' hp hso)
     have oyw':=oY.one
     rw [hol,decide_eq_true g] at e6
     rw [hol,if_pos g] at oY
     unfold mvB at eG gG
     have hp2:=(mvL_perm (o:=o') (f:=a.toNat) (t:=b.toNat) (by omega) (by omega)).trans hp
     have hsp:=@Nat.succ_ne_zero;repeat' (first|simp (disch:=first|exact dq|fail) only [go_sem,↓reduceIte,hsp,r246,s17,u244,u245,s0,s23,s27,hlt4,ad,ld,← eG,gG,e6,Bool.not_true]|refine WP_drw ?_|refine cnd_intro (fun hsp=>?_) fun hsp=>?_)
     exact ⟨agq,by omega,xK5.trans (xG.trans x6),_,yw',rfl,own_ints oY (perm_small' hp2 hso),hp2,by rw [hF,hst]⟩
    ·rintro fr4 K hA4 ⟨r246,xK5,o',w,s17,iW,hp,hF⟩
     have u244:=hA4 244 rfl
     have u245:=hA4 245 rfl
     try simp (disch:=first|exact dq|fail) only [go_sem,↓reduceIte] at u244 u245
     have hlt4:(((mndL o).length:Int)<((mndL o).length:Int))=False:=eq_false (by omega)
     have ow1:=iW.one
     have hup:o'=upto o.length:=by
      rw [List.drop_length,makF,b1] at hF
      exact (congrArg Prod.fst hF).symm
     rw [hup] at iW
     have hlw:=lenI iW
     rw [upto_len] at hlw
     have hsp:=@Nat.succ_ne_zero;repeat' (first|simp (disch:=first|exact dq|fail) only [go_sem,↓reduceIte,hsp,r246,s17,u244,u245,s0,s23,s27,hlt4,hlw]|refine WP_drw ?_|refine cnd_intro (fun hsp=>?_) fun hsp=>?_)
     refine WP_count [(6,38),(264,272)] 0 o.length (Nat.zero_le _) (fun _ i fr X=>fr 264=.int .i64 (i:Int)∧X=K) ?_ ?_ ?_
     ·exact ⟨by (simp (disch:=first|exact dq|fail) only [go_sem,↓reduceIte,Int.natCast_zero];first|done|rfl),rfl⟩
     ·rintro i fr5 X hi0 hi hA5 ⟨r264,eX5⟩
      have y262:=hA5 262 rfl
      have y263:=hA5 263 rfl
      try simp (disch:=first|exact dq|fail) only [go_sem,↓reduceIte] at y262 y263
      rw [eX5]
      have hlt5:((i:Int)<(o.length:Int))=True:=eq_true (by omega)
      have ai:=adrI (i:=(i:Int)) (by omega) iW (by rw [upto_len];omega)
      rw [Int.toNat_natCast] at ai
      have li:=loadI iW (i:=i) (by rw [upto_len];exact hi)
      have hui:(upto o.length).getD i 0=(i:Int):=by unfold upto;rw [lst_get hi]
      rw [hui] at li
      have hsp:=@Nat.succ_ne_zero;repeat' (first|simp (disch:=first|exact dq|fail) only [go_sem,↓reduceIte,hsp,r264,y262,y263,u244,u245,s0,s23,s27,hlt5,ai,li,eq_self,not_true,decide_false]|refine WP_drw ?_|refine cnd_intro (fun hsp=>?_) fun hsp=>?_)
      exact ⟨agq,by omega⟩
     ·rintro fr5 X hA5 ⟨r264,eX5⟩
      have y262:=hA5 262 rfl
      have y263:=hA5 263 rfl
      try simp (disch:=first|exact dq|fail) only [go_sem,↓reduceIte] at y262 y263
      rw [eX5]
      have hlt5:((o.length:Int)<(o.length:Int))=False:=eq_false (by omega)
      have hsp:=@Nat.succ_ne_zero;repeat' (first|simp (disch:=first|exact dq|fail) only [go_sem,↓reduceIte,hsp,r264,y262,y263,u244,u245,s0,s23,s27,hlt5,haw]|refine WP_drw ?_|refine cnd_intro (fun hsp=>?_) fun hsp=>?_)
      exact fB rfl (xh4.trans xK5)
 ·have tu:(aloL o=0)=False:=eq_false c
  have a2:risE o=([],aloL o):=by unfold risE;rw [if_neg c]
  have a3:pilE o=([],aloL o):=by unfold pilE;rw [if_neg c]
  have a6:mndE o=([],aloL o):=by unfold mndE;rw [if_neg c]
  have mE:makE o ms=([],aloL o):=by unfold makE;rw [if_neg c]
  have sE:shwE o ps=(0,aloL o):=by unfold shwE;rw [if_pos c]
  obtain ⟨K,eK⟩:∃ K,K=G3:=⟨_,rfl⟩
  rw [← eK] at e3 hal
  have xK:Ext G3 K:=by rw [eK];exact .refl
  have iR:Ints K (.slice none 0 0) (risE o).1:=by rw [a2];exact ints_nil
  have iM:Ints K (.slice none 0 0) (makE o ms).1:=by rw [mE];exact ints_nil
  have lK:=xK.len
  have i9:=iO3.ext xK
  have z10:=rP3.ext xK
  have m11:=rM3.ext xK
  obtain ⟨_,Z1,c1,z1,yw,rfl,oR⟩:=run_Rise (base:=h.length) (by omega) i9
  have oyw:=oR.one
  have lz1:=z1.len
  obtain ⟨_,Z2,c2,z2,pw',vs,rfl,oP⟩:=run_Piles (base:=h.length) (by omega) (i9.ext z1)
  have opw':=oP.own.one
  have lz2:=z2.len
  have z12:=z1.trans z2
  have c3:=fun base=>run_ShowsZ (base:=base) (i9.ext z12) (z10.ext z12) (by omega) hsm
  obtain ⟨_,Z3,c4,z3,dw,rfl,oD⟩:=run_Mend (base:=h.length) (by omega) (i9.ext z12)
  have odw:=oD.one
  have lz3:=z3.len
  have z13:=z12.trans z3
  obtain ⟨_,Z4,c5,z4,ew,rfl,oE⟩:=run_Make (base:=h.length) (by omega) (i9.ext z13) (m11.ext z13) (by omega)
  have oew:=oE.one
  have lz4:=z4.len
  have z14:=z13.trans z4
  obtain ⟨v1,v2,v3⟩:=@e_vals o
  rw [v1] at c1
  rw [v2] at c2
  rw [v3] at c4
  have xh4:=xh3.trans (xK.trans z14)
  have j1:=own_ints (oR.ext ((z2.trans z3).trans z4)) (risE_small (by omega))
  have j2:=ownE_ints oE (makE_small hso)
  have w1:=fun base=>run_eqI (base:=base) j1 (iR.ext z14)
  have w2:=fun base=>run_eqI (base:=base) j2 (iM.ext z14)
  have w3:=fun base=>run_eqI (base:=base) (i9.ext z14) (hO.ext xh4)
  rw [decide_eq_true rfl] at w1 w2 w3
  have w4:=fun base=>run_eqZ (base:=base) (z10.ext z14) (hP.ext xh4) (by omega)
  have w5:=fun base=>run_eqM (base:=base) (m11.ext z14) (hM.ext xh4) (by omega)
  have oP4:=(oP.all).ext (z3.trans z4)
  have lP4:=oP4.len (by have:=pilE_few (o:=o);omega)
  have oD4:=oD.ext z4
  have lD4:=(oD4.rows (by have:=mndE_few (o:=o);omega)).len (P:=prog) Fc.el37
  rw [sE] at c3
  rw [mE] at c5
  rw [a3] at lP4
  rw [a6] at lD4
  have hsp:=@Nat.succ_ne_zero;repeat' (first|simp (disch:=first|exact dq|fail) only [go_sem,↓reduceIte,hsp,r55,q0,q1,q2,q53,q54,hlt,e1,e2,e3,hal,tu,c1,c2,c3,c4,c5,eq_self,not_true,decide_false,decide_true,w1,w2,w3,w4,w5,lP4,lD4,haw]|refine WP_drw ?_|refine cnd_intro (fun hsp=>?_) fun hsp=>?_)
  exact fB rfl xh4
end Go.AM
