/-
  Contracts: the reference's spots of a break, and where a part is excluded.
-/
import Derived.Test.YtlhmeoeamcgcmaaGreatE54
import Derived.Test.YtlhmeoeamcgcmaaGreatWJ
set_option linter.unusedSimpArgs false
set_option linter.unusedVariables false
namespace Go.AM
open Go.Proofs.Tryz
attribute [-go_sem] put_ne put_same
attribute [local go_sem ↓] put_if
def rowSp (L:Lom) (b:Int × Int × Int) (r:Int) (n:Nat):List (Int × Int):=((upto n).filter fun t=>splR L b (r,t)).map fun t=>(r,t)
def sptR (L:Lom) (b:Int × Int × Int) (n:Nat):List (Int × Int):=(upto n).flatMap fun r=>rowSp L b r L.T.toNat
theorem rowSp_succ {L:Lom} {b:Int × Int × Int} {r:Int} {n:Nat}:rowSp L b r (n+1)=rowSp L b r n++(if splR L b (r,(n:Int))=true then [(r,(n:Int))] else []):=by
 unfold rowSp
 rw [upto_succ,List.filter_append,List.map_append]
 congr 1
 simp only [List.filter_cons,List.filter_nil]
 split<;>rfl
theorem rowSp_len {L:Lom} {b:Int × Int × Int} {r:Int} {n:Nat}:(rowSp L b r n).length≤n:=by
 have:=List.length_filter_le (fun t:Int=>splR L b (r,t)) (upto n)
 rw [upto_len] at this
 unfold rowSp
 rw [List.length_map];exact this
theorem sptR_succ {L:Lom} {b:Int × Int × Int} {n:Nat}:sptR L b (n+1)=sptR L b n++rowSp L b (n:Int) L.T.toNat:=by
 unfold sptR
 rw [upto_succ,List.flatMap_append]
 simp
theorem sptR_len {L:Lom} {b:Int × Int × Int}:∀ n,(sptR L b n).length≤n * L.T.toNat
 | 0=>by simp [sptR,upto,lst]
 | n+1=>by
  have:=sptR_len (L:=L) (b:=b) n
  have:=rowSp_len (L:=L) (b:=b) (r:=(n:Int)) (n:=L.T.toNat)
  rw [sptR_succ,List.length_append,Nat.succ_mul];omega
theorem bsTR {lit:Bool} {h:Heap} {a b:Int}:bsA prog lit h 180 1 [(0,.agg [.int .i64 a,.int .i64 b])]=some (.slice (some ⟨h.length,0,0⟩) 1 1,h++[rowE encT 183 [(a,b)] 0]):=by
 simp [bsA,rowOf,Fc.el180,fillA,repCells,AVal.isN,AVal.cells,splice,rowE,flat,encT]
set_option maxHeartbeats 2000000 in
theorem run_spotsR {base:Nat} {h:Heap} {L:Lom} {pv sv:AVal} {b:Int × Int × Int} (hb:base≤h.length) (hP:Parts h pv L.ps) (hS:One sv) (hc:chkM L=0) (hr:∀ p ∈ L.ps,p.rib.length≤1000) (hk:brkM L b=0) :
  Ret prog raw base (.fn 116 [] []) [lomV L.R L.T pv sv,.agg (encB.cells b)] h (fun v H=>Ext h H∧Own encT 183 h.length H v (sptR L b L.R.toNat)):=by
 have ho:=hP.one
 obtain ⟨k1,k2,k3,k4,k5,k6⟩:=chkM_ok hc
 obtain ⟨j1,j2,j3,j4⟩:=brkM_ok hk
 obtain ⟨R,eR⟩:=Int.eq_ofNat_of_zero_le (show 0≤L.R by omega)
 obtain ⟨T,eT⟩:=Int.eq_ofNat_of_zero_le (show 0≤L.T by omega)
 have eT2:L.T.toNat=T:=by omega
 have eR2:L.R.toNat=R:=by omega
 rw [eR2]
 have sp:∀ {base:Nat} {H:Heap} {r t:Int},Ext h H→0≤t∧t≤1000→callL prog raw base (.fn 143 [] []) [lomV L.R L.T pv sv,.agg (encB.cells b),.agg [.int .i64 r,.int .i64 t]] H=some (.bool (splR L b (r,t)),H):=fun e ht=>run_spoilsR (hP.ext e) hS hc hr j1 ht
 simp only [encB] at sp ⊢
 refine ret_raw func116 rfl (by kernel_rfl) ?_
 have hsp:=@Nat.succ_ne_zero;repeat' (first|simp (disch:=first|exact dq|fail) only [go_sem,↓reduceIte,hsp]|refine WP_drw ?_|refine cnd_intro (fun hsp=>?_) fun hsp=>?_)
 obtain ⟨G,eG⟩:∃ G,G=h++[(⟨.cells [.int .i64 L.R,.int .i64 L.T,pv,sv] 32 false false,0⟩:ABlk)]++[(⟨.cells [.int .i64 b.1,.int .i64 b.2.1,.int .i64 b.2.2] 128 false false,0⟩:ABlk)]:=⟨_,rfl⟩
 rw [← eG]
 have xG:Ext h G:=by rw [eG];exact .app (.app .refl)
 have hG:=xG.len
 have g1:G[h.length]?=some ⟨.cells [.int .i64 L.R,.int .i64 L.T,pv,sv] 32 false false,0⟩:=by rw [eG];exact get_app (get_eq rfl)
 have g2:G[h.length+1]?=some ⟨.cells [.int .i64 b.1,.int .i64 b.2.1,.int .i64 b.2.2] 128 false false,0⟩:=by rw [eG];exact get_eq (by simp)
 refine WP_count [(5,31)] 0 R (Nat.zero_le _) (fun _ i fr h'=>fr 6=.int .i64 (i:Int)∧Ext G h'∧∃ v,fr 5=v∧Own encT 183 G.length h' v (sptR L b i)) ?_ ?_ ?_
 ·exact ⟨by (simp (disch:=first|exact dq|fail) only [go_sem,↓reduceIte,Int.natCast_zero];first|done|rfl),.refl,.slice none 0 0,by simp (disch:=first|exact dq|fail) only [go_sem,↓reduceIte],by simp only [sptR,upto,lst];exact Own.nil⟩
 ·rintro i fr H hi0 hi hA ⟨r6,xH,v,r5,hO⟩
  have p2:=hA 2 rfl
  have p3:=hA 3 rfl
  have p4:=hA 4 rfl
  try simp (disch:=first|exact dq|fail) only [go_sem,↓reduceIte] at p2 p3 p4
  have hlt:((i:Int)<L.R)=True:=eq_true (by omega)
  have g1H:=xH.get g1
  have hsp:=@Nat.succ_ne_zero;repeat' (first|simp (disch:=first|exact dq|fail) only [go_sem,↓reduceIte,hsp,r6,r5,p2,p3,p4,hlt,g1H]|refine WP_drw ?_|refine cnd_intro (fun hsp=>?_) fun hsp=>?_)
  refine WP_count [(5,5),(7,31)] 0 T (Nat.zero_le _) (fun _ j fr h'=>fr 7=.int .i64 (j:Int)∧Ext G h'∧∃ v,fr 5=v∧Own encT 183 G.length h' v (sptR L b i++rowSp L b (i:Int) j)) ?_ ?_ ?_
  ·exact ⟨by (simp (disch:=first|exact dq|fail) only [go_sem,↓reduceIte,Int.natCast_zero];first|done|rfl),xH,v,by simp (disch:=first|exact dq|fail) only [go_sem,↓reduceIte,r5],by simpa [rowSp,upto,lst] using hO⟩
  ·rintro j fr2 H2 hj0 hj hA2 ⟨r7,xH2,v2,r52,hO2⟩
   have q2:=hA2 2 rfl
   have q3:=hA2 3 rfl
   have q4:=hA2 4 rfl
   have q6:=hA2 6 rfl
   try simp (disch:=first|exact dq|fail) only [go_sem,↓reduceIte,p2,p3,p4] at q2 q3 q4 q6
   have q6:=hA2 6 rfl
   simp (disch:=first|exact dq|fail) only [go_sem,↓reduceIte,r6] at q6
   have hlt2:((j:Int)<L.T)=True:=eq_true (by omega)
   have g1K:=xH2.get g1
   have g2K:=xH2.get g2
   have e:=fun base=>sp (base:=base) (r:=(i:Int)) (t:=(j:Int)) (xG.trans xH2) (by omega)
   have hl1:=sptR_len (L:=L) (b:=b) i
   have hl2:=rowSp_len (L:=L) (b:=b) (r:=(i:Int)) (n:=j)
   have hl3:i * L.T.toNat≤6 * 12:=Nat.mul_le_mul (by omega) (by omega)
   rcases Bool.eq_false_or_eq_true (splR L b ((i:Int),(j:Int))) with c1|c1
   ·rw [c1] at e
    obtain ⟨v',h',ea',hO',hle,hE,h1'⟩:=(hO2.app (T:=[rowE encT 183 [((i:Int),(j:Int))] 0])).appendR (x:=.slice (some ⟨H2.length,0,0⟩) 1 1) (m:=[((i:Int),(j:Int))]) (base:=base) (t:=180) (Rows.own (get_eq rfl) rfl (by simp)) Fc.el180 encT_sc (by omega) (by have:=xH2.len;simp;omega) (by simp) (by simp;omega)
    have hsp:=@Nat.succ_ne_zero;repeat' (first|simp (disch:=first|exact dq|fail) only [go_sem,↓reduceIte,hsp,r7,r52,q6,q2,q3,q4,q6,hlt2,g1K,g2K,e,bsTR,ea']|refine WP_drw ?_|refine cnd_intro (fun hsp=>?_) fun hsp=>?_)
    refine ⟨agq,by omega,hE G (Nat.le_refl _) (Ext.app xH2),v',rfl,?_⟩
    rw [rowSp_succ,if_pos c1,← List.append_assoc]
    exact hO'
   ·rw [c1] at e
    have hsp:=@Nat.succ_ne_zero;repeat' (first|simp (disch:=first|exact dq|fail) only [go_sem,↓reduceIte,hsp,r7,r52,q6,q2,q3,q4,q6,hlt2,g1K,g2K,e]|refine WP_drw ?_|refine cnd_intro (fun hsp=>?_) fun hsp=>?_)
    refine ⟨agq,by omega,xH2,v2,rfl,?_⟩
    rw [rowSp_succ,if_neg (by rw [c1];decide),List.append_nil]
    exact hO2
  ·rintro fr2 H2 hA2 ⟨r7,xH2,v2,r52,hO2⟩
   have q2:=hA2 2 rfl
   have q3:=hA2 3 rfl
   have q4:=hA2 4 rfl
   have q6:=hA2 6 rfl
   try simp (disch:=first|exact dq|fail) only [go_sem,↓reduceIte,p2,p3,p4] at q2 q3 q4 q6
   have q6:=hA2 6 rfl
   simp (disch:=first|exact dq|fail) only [go_sem,↓reduceIte,r6] at q6
   have hlt2:((T:Int)<L.T)=False:=eq_false (by omega)
   have g1K:=xH2.get g1
   have hsp:=@Nat.succ_ne_zero;repeat' (first|simp (disch:=first|exact dq|fail) only [go_sem,↓reduceIte,hsp,r7,r52,q6,q2,q3,q4,q6,hlt2,g1K]|refine WP_drw ?_|refine cnd_intro (fun hsp=>?_) fun hsp=>?_)
   refine ⟨agq,by omega,xH2,v2,rfl,?_⟩
   rw [sptR_succ,eT2]
   exact hO2
 ·rintro fr H hA ⟨r6,xH,v,r5,hO⟩
  have p2:=hA 2 rfl
  have p3:=hA 3 rfl
  have p4:=hA 4 rfl
  try simp (disch:=first|exact dq|fail) only [go_sem,↓reduceIte] at p2 p3 p4
  have hlt:((R:Int)<L.R)=False:=eq_false (by omega)
  have g1H:=xH.get g1
  have hsp:=@Nat.succ_ne_zero;repeat' (first|simp (disch:=first|exact dq|fail) only [go_sem,↓reduceIte,hsp,r6,r5,p2,p3,p4,hlt,g1H]|refine WP_drw ?_|refine cnd_intro (fun hsp=>?_) fun hsp=>?_)
  exact ⟨xG.trans xH,hO.low hG⟩
def exS (q:Prt) (t:Int) (s:Sgt):Bool:=!s.bad && (decide (s.lo≤t∧t≤s.hi) && wks q (s.rib,t))
def excR (L:Lom) (k:Nat) (n:Nat):List Int:=(upto n).filter fun t=>L.ss.any (exS (L.ps.getD k prt0) t)
theorem excR_succ {L:Lom} {k n:Nat}:excR L k (n+1)=excR L k n++(if (L.ss.any (exS (L.ps.getD k prt0) (n:Int)))=true then [(n:Int)] else []):=by
 unfold excR
 rw [upto_succ,List.filter_append]
 congr 1
 simp only [List.filter_cons,List.filter_nil]
theorem excR_len {L:Lom} {k n:Nat}:(excR L k n).length≤n:=by
 have:=List.length_filter_le (fun t:Int=>L.ss.any (exS (L.ps.getD k prt0) t)) (upto n)
 rw [upto_len] at this
 exact this
set_option maxHeartbeats 4000000 in
theorem run_excR {base:Nat} {h:Heap} {L:Lom} {pv sv:AVal} {k:Nat} (hb:base≤h.length) (hP:Parts h pv L.ps) (hS:Rows encS h sv L.ss) (hc:chkM L=0) (hr:∀ p ∈ L.ps,p.rib.length≤1000) (hk:k<L.ps.length) :
  Ret prog raw base (.fn 117 [] []) [lomV L.R L.T pv sv,.int .i64 (k:Int)] h (fun v H=>Ext h H∧Own encI 3 h.length H v (excR L k L.T.toNat)):=by
 have ho:=hP.one
 have ho2:=hS.one
 obtain ⟨k1,k2,k3,k4,k5,k6⟩:=chkM_ok hc
 obtain ⟨T,eT⟩:=Int.eq_ofNat_of_zero_le (show 0≤L.T by omega)
 have eT2:L.T.toNat=T:=by omega
 rw [eT2]
 obtain ⟨q,eq⟩:∃ q,q=L.ps.getD k prt0:=⟨_,rfl⟩
 have hq:L.ps[k]?=some q:=by rw [eq];exact getD_some hk
 have hqm:=List.mem_of_getElem? hq
 have k5q:=k5 q hqm
 have hql:=hr q hqm
 obtain ⟨a1,w1,ad1,ld1,i1⟩:=hP.atR hq
 have hw:=i1.one
 refine ret_raw func117 rfl (by kernel_rfl) ?_
 have hsp:=@Nat.succ_ne_zero;repeat' (first|simp (disch:=first|exact dq|fail) only [go_sem,↓reduceIte,hsp]|refine WP_drw ?_|refine cnd_intro (fun hsp=>?_) fun hsp=>?_)
 obtain ⟨G,eG⟩:∃ G,G=h++[(⟨.cells [.int .i64 L.R,.int .i64 L.T,pv,sv] 32 false false,0⟩:ABlk)]:=⟨_,rfl⟩
 rw [← eG]
 have xG:Ext h G:=by rw [eG];exact .app .refl
 have hG:=xG.len
 have g1:G[h.length]?=some ⟨.cells [.int .i64 L.R,.int .i64 L.T,pv,sv] 32 false false,0⟩:=by rw [eG];exact get_eq rfl
 refine WP_count [(5,61)] 0 T (Nat.zero_le _) (fun _ t fr h'=>fr 6=.int .i64 (t:Int)∧Ext G h'∧∃ v,fr 5=v∧Own encI 3 G.length h' v (excR L k t)) ?_ ?_ ?_
 ·exact ⟨by (simp (disch:=first|exact dq|fail) only [go_sem,↓reduceIte,Int.natCast_zero];first|done|rfl),.refl,.slice none 0 0,by simp (disch:=first|exact dq|fail) only [go_sem,↓reduceIte],by simp only [excR,upto,lst];exact Own.nil⟩
 ·rintro t fr H ht0 ht hA ⟨r6,xH,v,r5,hO⟩
  have p1:=hA 1 rfl
  have p2:=hA 2 rfl
  have p4:=hA 4 rfl
  try simp (disch:=first|exact dq|fail) only [go_sem,↓reduceIte] at p1 p2 p4
  have pr1:=hA 1 rfl
  simp (disch:=first|exact dq|fail) only [go_sem,↓reduceIte] at pr1
  have hlt:((t:Int)<L.T)=True:=eq_true (by omega)
  have g1H:=xH.get g1
  have hsp:=@Nat.succ_ne_zero;repeat' (first|simp (disch:=first|exact dq|fail) only [go_sem,↓reduceIte,hsp,r6,r5,p1,p2,p4,hlt,g1H]|refine WP_drw ?_|refine cnd_intro (fun hsp=>?_) fun hsp=>?_)
  refine WP_count [(7,56)] 0 L.ss.length (Nat.zero_le _) (fun _ j fr h'=>fr 8=.int .i64 (j:Int)∧Ext H h'∧∃ x,fr 7=.bool x∧x=(L.ss.take j).any (exS q (t:Int))) ?_ ?_ ?_
  ·exact ⟨by (simp (disch:=first|exact dq|fail) only [go_sem,↓reduceIte,Int.natCast_zero];first|done|rfl),.refl,false,by simp (disch:=first|exact dq|fail) only [go_sem,↓reduceIte],by simp⟩
  ·rintro j fr2 K hj0 hj hA2 ⟨r8,xK,x,r7,ex⟩
   have d1:=hA2 1 rfl
   have d2:=hA2 2 rfl
   have d4:=hA2 4 rfl
   have d5:=hA2 5 rfl
   have d6:=hA2 6 rfl
   try simp (disch:=first|exact dq|fail) only [go_sem,↓reduceIte,p1,p2,p4] at d1 d2 d4 d5 d6
   have d6:=hA2 6 rfl
   simp (disch:=first|exact dq|fail) only [go_sem,↓reduceIte,r6] at d6
   have dr1:=hA2 1 rfl
   simp (disch:=first|exact dq|fail) only [go_sem,↓reduceIte,pr1] at dr1
   have hlt2:((j:Int)<(L.ss.length:Int))=True:=eq_true (by omega)
   have xh:=(xG.trans xH).trans xK
   have hhl:=xh.len
   have g1K:=(xH.trans xK).get g1
   have g1K':∀ {a:ABlk},(K++[a])[h.length]?=_:=fun {a}=>get_app g1K
   have l4:lenOpA prog K 30 sv=some (.int .i64 (L.ss.length:Int)):=(hS.ext xh).len Fc.el30
   obtain ⟨s,es⟩:∃ s,s=L.ss.getD j sgt0:=⟨_,rfl⟩
   have hs:L.ss[j]?=some s:=by rw [es];exact getD_some hj
   have ad:=(hS.ext xh).addr (P:=prog) (i:=(j:Int)) Fc.el30 Fc.ar30 (by omega) (by omega)
   rw [Int.toNat_natCast] at ad
   have s1:loadP prog K 126 (elAdr sv encS.z j 0)=some (.agg [.int .i64 s.rib,.int .i64 s.lo,.int .i64 s.hi,.bool s.bad]):=(hS.ext xh).load (P:=prog) Fc.ty126 hs
   have s2:∀ {T:Heap},loadP prog (K++T) 126 (elAdr sv encS.z j 0)=some (.agg [.int .i64 s.rib,.int .i64 s.lo,.int .i64 s.hi,.bool s.bad]):=fun {T}=>(hS.ext (xh.trans (.app .refl))).load (P:=prog) Fc.ty126 hs
   have d1:∀ {T:Heap},loadP prog (K++T) 125 a1=some (.agg [w1,.int .i64 q.each,.int .i64 q.ph,.bool q.wv]):=fun {T}=>ld1 _ (xh.trans (.app .refl))
   have e:=fun (base:Nat) (T:Heap)=>run_works (base:=base) (h:=K++T) (w:=w1) (p:=q) (r:=s.rib) (t:=(t:Int)) (i1.ext (xh.trans (.app .refl))) hql k5q.2.1 (by omega)
   have fin:∀ {y:Bool},y=(x || exS q (t:Int) s)→y=(L.ss.take (j+1)).any (exS q (t:Int)):=by
    intro y hy
    rw [hy,ex,any_take_succ _ hs]
   rcases Bool.eq_false_or_eq_true x with qx|qx
   ·rw [qx] at r7 fin
    have hsp:=@Nat.succ_ne_zero;repeat' (first|simp (disch:=first|exact dq|fail) only [go_sem,↓reduceIte,hsp,r8,r7,d6,d1,d2,d4,d5,d6,p1,p2,p4,hlt2,g1K,g1K',l4,ad,s1,s2]|refine WP_drw ?_|refine cnd_intro (fun hsp=>?_) fun hsp=>?_)
    exact ⟨agq,by omega,xK.trans (.app .refl),_,rfl,fin (by simp)⟩
   ·rw [qx] at r7 fin
    rcases Bool.eq_false_or_eq_true s.bad with qb|qb
    ·rw [qb] at s1 s2
     have z:exS q (t:Int) s=false:=by unfold exS;rw [qb];rfl
     have hsp:=@Nat.succ_ne_zero;repeat' (first|simp (disch:=first|exact dq|fail) only [go_sem,↓reduceIte,hsp,r8,r7,d6,d1,d2,d4,d5,d6,p1,p2,p4,hlt2,g1K,g1K',l4,ad,s1,s2]|refine WP_drw ?_|refine cnd_intro (fun hsp=>?_) fun hsp=>?_)
     exact ⟨agq,by omega,xK.trans (.app .refl),_,rfl,fin (by rw [z];rfl)⟩
    ·rw [qb] at s1 s2
     by_cases c1:s.lo≤(t:Int)∧(t:Int)≤s.hi
     ·have t1:((t:Int)<s.lo ∨ (t:Int) > s.hi)=False:=eq_false (by omega)
      have z:exS q (t:Int) s=wks q (s.rib,(t:Int)):=by unfold exS;rw [qb,decide_eq_true c1];simp
      have hsp:=@Nat.succ_ne_zero;repeat' (first|simp (disch:=first|exact dq|fail) only [go_sem,↓reduceIte,hsp,r8,r7,d6,d1,d2,d4,d5,d6,p1,p2,p4,hlt2,g1K,g1K',l4,ad,s1,s2,run_off,t1,dr1,ad1,d1,e]|refine WP_drw ?_|refine cnd_intro (fun hsp=>?_) fun hsp=>?_)
      exact ⟨agq,by omega,xK.trans (.app .refl),_,rfl,fin (by rw [z];simp)⟩
     ·have t1:((t:Int)<s.lo ∨ (t:Int) > s.hi)=True:=eq_true (by omega)
      have z:exS q (t:Int) s=false:=by unfold exS;rw [decide_eq_false c1];simp
      have hsp:=@Nat.succ_ne_zero;repeat' (first|simp (disch:=first|exact dq|fail) only [go_sem,↓reduceIte,hsp,r8,r7,d6,d1,d2,d4,d5,d6,p1,p2,p4,hlt2,g1K,g1K',l4,ad,s1,s2,run_off,t1]|refine WP_drw ?_|refine cnd_intro (fun hsp=>?_) fun hsp=>?_)
      exact ⟨agq,by omega,xK.trans (.app .refl),_,rfl,fin (by rw [z];rfl)⟩
  ·rintro fr2 K hA2 ⟨r8,xK,x,r7,ex⟩
   have d1:=hA2 1 rfl
   have d2:=hA2 2 rfl
   have d4:=hA2 4 rfl
   have d5:=hA2 5 rfl
   have d6:=hA2 6 rfl
   try simp (disch:=first|exact dq|fail) only [go_sem,↓reduceIte,p1,p2,p4] at d1 d2 d4 d5 d6
   have d6:=hA2 6 rfl
   simp (disch:=first|exact dq|fail) only [go_sem,↓reduceIte,r6] at d6
   have d5:=hA2 5 rfl
   simp (disch:=first|exact dq|fail) only [go_sem,↓reduceIte,r5] at d5
   have hlt2:((L.ss.length:Int)<(L.ss.length:Int))=False:=eq_false (by omega)
   have xh:=(xG.trans xH).trans xK
   have g1K:=(xH.trans xK).get g1
   have l4:lenOpA prog K 30 sv=some (.int .i64 (L.ss.length:Int)):=(hS.ext xh).len Fc.el30
   rw [List.take_length] at ex
   have hel:=excR_len (L:=L) (k:=k) (n:=t)
   have hKl:=(xH.trans xK).len
   rcases Bool.eq_false_or_eq_true x with qx|qx
   ·rw [qx] at r7 ex
    obtain ⟨v',h',ea,hO',hle,hE,h1'⟩:=(hO.ext xK).append1 (y:=(t:Int)) (base:=base) (t:=36) rfl rfl Fc.el36 encI_sc (by omega) hKl (by omega)
    have hsp:=@Nat.succ_ne_zero;repeat' (first|simp (disch:=first|exact dq|fail) only [go_sem,↓reduceIte,hsp,r8,r7,d5,d6,d1,d2,d4,d5,d6,p1,p2,p4,hlt2,g1K,l4,ea]|refine WP_drw ?_|refine cnd_intro (fun hsp=>?_) fun hsp=>?_)
    refine ⟨agq,by omega,hE _ (Nat.le_refl _) (xH.trans xK),v',rfl,?_⟩
    rw [excR_succ,if_pos (by rw [← eq,← ex])]
    exact hO'
   ·rw [qx] at r7 ex
    have hsp:=@Nat.succ_ne_zero;repeat' (first|simp (disch:=first|exact dq|fail) only [go_sem,↓reduceIte,hsp,r8,r7,d5,d6,d1,d2,d4,d5,d6,p1,p2,p4,hlt2,g1K,l4]|refine WP_drw ?_|refine cnd_intro (fun hsp=>?_) fun hsp=>?_)
    refine ⟨agq,by omega,xH.trans xK,v,rfl,?_⟩
    rw [excR_succ,if_neg (by rw [← eq,← ex];decide),List.append_nil]
    exact hO.ext xK
 ·rintro fr H hA ⟨r6,xH,v,r5,hO⟩
  have p1:=hA 1 rfl
  have p2:=hA 2 rfl
  have p4:=hA 4 rfl
  try simp (disch:=first|exact dq|fail) only [go_sem,↓reduceIte] at p1 p2 p4
  have hlt:((T:Int)<L.T)=False:=eq_false (by omega)
  have g1H:=xH.get g1
  have hsp:=@Nat.succ_ne_zero;repeat' (first|simp (disch:=first|exact dq|fail) only [go_sem,↓reduceIte,hsp,r6,r5,p1,p2,p4,hlt,g1H]|refine WP_drw ?_|refine cnd_intro (fun hsp=>?_) fun hsp=>?_)
  exact ⟨xG.trans xH,hO.low hG⟩
end Go.AM
namespace Go.AM
theorem thr_iff {each ph:Int} {a:Nat} {x:Int}:∀ n,x ∈ thr each ph a n ↔ ((a:Int)≤x∧x<((a+n:Nat):Int))∧x.tmod each=ph
 | 0=>by simp [thr];omega
 | n+1=>by
  simp only [thr,List.mem_append,thr_iff n]
  split
  ·rename_i h
   rw [List.mem_singleton]
   constructor
   ·rintro (⟨h1,h2⟩|rfl)
    ·exact ⟨by omega,h2⟩
    ·exact ⟨by omega,h⟩
   ·rintro ⟨h1,h2⟩
    by_cases e:x=((a+n:Nat):Int)
    ·exact .inr e
    ·exact .inl ⟨by omega,h2⟩
  ·rename_i h
   constructor
   ·rintro (⟨h1,h2⟩|h1)
    ·exact ⟨by omega,h2⟩
    ·cases h1
   ·rintro ⟨h1,h2⟩
    by_cases e:x=((a+n:Nat):Int)
    ·subst e;exact absurd h2 h
    ·exact .inl ⟨by omega,h2⟩
theorem thr_sorted {each ph:Int} {a:Nat}:∀ n,(thr each ph a n).Pairwise (·<·)
 | 0=>List.Pairwise.nil
 | n+1=>by
  simp only [thr]
  refine List.pairwise_append.2 ⟨thr_sorted n,?_,fun x hx y hy=>?_⟩
  ·split
   ·exact List.pairwise_singleton _ _
   ·exact List.Pairwise.nil
  ·have:=(thr_iff n).1 hx
   split at hy
   ·rw [List.mem_singleton] at hy;subst hy;omega
   ·cases hy
theorem flatMap_if {β:Type} (p:Int→Bool) (g:Int→List β):∀ l:List Int,(l.flatMap fun x=>if p x=true then g x else [])=(l.filter p).flatMap g
 | []=>rfl
 | x :: l=>by
  rw [List.flatMap_cons,List.filter_cons,flatMap_if p g l]
  by_cases h:p x=true
  ·rw [if_pos h,if_pos h,List.flatMap_cons]
  ·rw [if_neg h,if_neg h,List.nil_append]
theorem sptR_eq {L:Lom} {b:Int × Int × Int} (hc:chkM L=0) (hk:brkM L b=0):sptR L b L.R.toNat=(splM L b).1:=by
 obtain ⟨k1,k2,k3,k4,k5,k6⟩:=chkM_ok hc
 obtain ⟨j1,j2,j3,j4⟩:=brkM_ok hk
 obtain ⟨q,eq⟩:∃ q,q=L.ps.getD b.1.toNat prt0:=⟨_,rfl⟩
 have hqm:q ∈ L.ps:=by rw [eq];exact getD_in (by omega)
 have k5q:=k5 q hqm
 unfold splM
 rw [if_neg (by simp [hc]),if_neg (by simp [hk])]
 show _=spotsN (L.ps.getD b.1.toNat prt0) b.2.1.toNat (b.2.2+1-b.2.1).toNat
 rw [← eq]
 have row:∀ r,rowSp L b r L.T.toNat=if decide (r ∈ q.rib)=true then (thr q.each q.ph b.2.1.toNat (b.2.2+1-b.2.1).toNat).map fun t=>(r,t) else []:=fun r=>by
  unfold rowSp splR wks
  rw [← eq]
  by_cases hr:r ∈ q.rib
  ·rw [if_pos (decide_eq_true hr)]
   congr 1
   refine pair_ext ((upto_sorted _).filter _) (thr_sorted _) fun x=>?_
   rw [List.mem_filter,upto_mem,thr_iff]
   simp only [Bool.and_eq_true,decide_eq_true_eq,hr,and_true]
   constructor
   ·rintro ⟨h1,h2,h3⟩;exact ⟨by omega,h3⟩
   ·rintro ⟨h1,h3⟩;exact ⟨by omega,by omega,h3⟩
  ·rw [if_neg (by simp [hr])]
   have:((upto L.T.toNat).filter fun t=>decide (b.2.1≤(r,t).2∧(r,t).2≤b.2.2) && decide ((r,t).2.tmod q.each=q.ph∧(r,t).1 ∈ q.rib))=[]:=by
    rw [List.filter_eq_nil_iff]
    intro t _
    simp [hr]
   rw [this]
   rfl
 unfold sptR spotsN
 rw [show (fun r=>rowSp L b r L.T.toNat)=fun r=>if decide (r ∈ q.rib)=true then (thr q.each q.ph b.2.1.toNat (b.2.2+1-b.2.1).toNat).map fun t=>(r,t) else [] from funext row,flatMap_if (fun r=>decide (r ∈ q.rib))]
 congr 1
 refine pair_ext ((upto_sorted _).filter _) (rise_pair k5q.2.2.2.2) fun x=>?_
 rw [List.mem_filter,upto_mem]
 simp only [decide_eq_true_eq]
 constructor
 ·exact fun h=>h.2
 ·intro h
  have:=k5q.2.2.2.1 x h
  exact ⟨by omega,h⟩
theorem excR_eq {L:Lom} {k:Nat} (hc:chkM L=0) (hk:k<L.ps.length):excR L k L.T.toNat=(excM L (k:Int)).1:=by
 obtain ⟨k1,k2,k3,k4,k5,k6⟩:=chkM_ok hc
 have hm:=(excM_mem hc (k:=(k:Int)) ⟨by omega,by omega⟩).2
 have hs:(excM L (k:Int)).1.Pairwise (·<·):=by
  unfold excM
  rw [if_neg (by simp [hc]),if_neg (by omega)]
  exact (upto_sorted _).filter _
 refine pair_ext ((upto_sorted _).filter _) hs fun x=>?_
 unfold excR
 rw [hm,List.mem_filter,upto_mem,List.any_eq_true,Int.toNat_natCast]
 constructor
 ·rintro ⟨h1,s,hs1,h2⟩
  have hx:((x.toNat:Nat):Int)=x:=by omega
  unfold exS wks at h2
  simp only [Bool.and_eq_true,Bool.not_eq_true',decide_eq_true_eq] at h2
  obtain ⟨i,hi,rfl⟩:=List.getElem_of_mem hs1
  have hg:sgtI L (i:Int)=L.ss[i]:=by unfold sgtI;rw [Int.toNat_natCast,getD_at hi]
  refine ⟨by omega,(i:Int),upto_mem.2 ⟨by omega,by omega⟩,?_⟩
  unfold exclI
  unfold badI
  rw [hg,hx,show L.ss.getD ((i:Int)).toNat sgt0=L.ss[i] from hg]
  exact ⟨h2.1,h2.2.1.1,h2.2.1.2,h2.2.2.1,h2.2.2.2⟩
 ·rintro ⟨h1,i,hi,h2⟩
  have hx:((x.toNat:Nat):Int)=x:=by omega
  unfold exclI at h2
  unfold badI at h2
  rw [hx] at h2
  refine ⟨by omega,sgtI L i,sgtI_mem (upto_mem.1 hi),?_⟩
  unfold exS wks
  simp only [Bool.and_eq_true,Bool.not_eq_true',decide_eq_true_eq]
  exact ⟨h2.1,⟨h2.2.1,h2.2.2.1⟩,h2.2.2.2.1,h2.2.2.2.2⟩
end Go.AM
