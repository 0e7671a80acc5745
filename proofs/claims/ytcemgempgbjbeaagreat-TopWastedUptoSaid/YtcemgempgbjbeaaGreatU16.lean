/-
  Contracts: the units that no cut takes (Rest).
-/
import Derived.Test.YtcemgempgbjbeaaGreatU15
import Derived.Test.YtcemgempgbjbeaaGreatU11
import Derived.KernelRfl
import Derived.Test.YtcemgempgbjbeaaGreatU12
set_option linter.unusedSimpArgs false
set_option linter.unusedVariables false
namespace Go.AM
open Go.Proofs.Tryz
attribute [-go_sem] put_ne put_same
attribute [local go_sem ↓] put_if
def mpB (ks:List Int):List (AVal × AVal):=ks.map fun k=>(.int .i64 k,.bool true)
theorem eqI {a b:Int}:eqT prog eqDepth 3 (.int .i64 a) (.int .i64 b)=some (decide (a=b)):=by
 by_cases h:a=b<;>simp [eqT,eqDepth,h]
theorem keyI {a:Int}:keyOk prog eqDepth 3 (.int .i64 a)=true:=by kernel_rfl
theorem find_mp {k:Int}:∀ {ks:List Int},findA prog 3 (.int .i64 k) (mpB ks)=some (if k ∈ ks then some (ks.idxOf k) else none)
 | []=>rfl
 | j :: ks=>by
  have ih:=find_mp (k:=k) (ks:=ks)
  simp only [mpB,List.map_cons,findA,eqI]
  by_cases h:k=j
  ·subst h;simp
  ·rw [decide_eq_false h]
   simp only
   rw [show findA prog 3 (.int .i64 k) (ks.map fun k=>(AVal.int .i64 k,AVal.bool true))=_ from ih,List.idxOf_cons,show (j == k)=false by simpa using fun q=>h q.symm]
   by_cases h2:k ∈ ks
   ·rw [if_pos h2,if_pos (by simp [h2])];rfl
   ·rw [if_neg h2,if_neg (by simp [h,h2])];rfl
def insK (ks:List Int) (k:Int):List Int:=if k ∈ ks then ks else ks++[k]
theorem look_mp {H:Heap} {m:Nat} {k:Int} {ks:List Int} (hm:H[m]?=some ⟨.map (mpB ks),0⟩):lookupA prog H 168 (.map (some m)) (.int .i64 k) false=some (.bool (decide (k ∈ ks))):=by
 simp only [lookupA,Fc.mp168,entriesA,hm,keyI,if_true,find_mp]
 by_cases h:k ∈ ks
 ·rw [if_pos h]
  have hi:=List.idxOf_lt_length_of_mem h
  have:(mpB ks)[ks.idxOf k]?=some (.int .i64 (ks[ks.idxOf k]),.bool true):=by
   simp only [mpB,List.getElem?_map,List.getElem?_eq_getElem hi,Option.map_some]
  simp [this,h]
 ·rw [if_neg h,decide_eq_false h]
  simp only [show zvA prog 4=some (.bool false) by kernel_rfl]
  rfl
theorem upd_mp {base:Nat} {H:Heap} {m:Nat} {k:Int} {ks:List Int} (hb:base≤m) (hm:H[m]?=some ⟨.map (mpB ks),0⟩):mapUpdateA prog base H 168 (.map (some m)) (.int .i64 k) (.bool true)=some (H.set m ⟨.map (mpB (insK ks k)),0⟩):=by
 simp only [mapUpdateA,Fc.mp168,hm,keyI,find_mp]
 rw [if_pos ⟨trivial,.inl hb⟩]
 unfold insK
 by_cases h:k ∈ ks
 ·rw [if_pos h,if_pos h]
  have hi:=List.idxOf_lt_length_of_mem h
  have hk:ks[ks.idxOf k]=k:=List.getElem_idxOf hi
  have e1:((mpB ks)[ks.idxOf k]?).map (·.1)=some (.int .i64 k):=by
   simp only [mpB,List.getElem?_map,List.getElem?_eq_getElem hi,Option.map_some,hk]
  simp only
  rw [if_pos e1]
  have:(mpB ks).set (ks.idxOf k) (.int .i64 k,.bool true)=mpB ks:=by
   refine List.ext_getElem? fun i=>?_
   rw [List.getElem?_set]
   split
   ·rename_i e
    rw [← e]
    simp only [mpB,List.getElem?_map,List.getElem?_eq_getElem hi,Option.map_some,hk,List.length_map]
    rw [if_pos hi]
   ·rfl
  rw [this]
 ·rw [if_neg h,if_neg h]
  simp only [mpB,List.map_append,List.map_cons,List.map_nil]
def takU (R:Rib) (c:Ct):List Int:=match R.W[c.w.toNat]? with
 | none=>[]
 | some w=>(uniO R w c.f.toNat c.j).1
def tknL (R:Rib):List Ct→List Int→List Int
 | [],ks=>ks
 | c :: p,ks=>tknL R p ((takU R c).foldl insK ks)
def spnS (t:List Int) (o:List (Int × Int)) (u:Nat):List (Int × Int) :=
 if (u:Int) ∈ t then o else if 0<o.length∧(o.getD (o.length-1) (0,0)).2=(u:Int)-1 then o.set (o.length-1) ((o.getD (o.length-1) (0,0)).1,(u:Int)) else o++[((u:Int),(u:Int))]
def spnN (t:List Int):Nat→List (Int × Int)
 | 0=>[]
 | n+1=>spnS t (spnN t n) n
def rstE (R:Rib) (p:List Ct):List (Int × Int) × Int:=if (plnE R p).2 ≠ 0 then ([],(plnE R p).2) else (spnN (tknL R p []) R.L.toNat,0)
theorem plnL_rng {R:Rib}:∀ {p:List Ct} {a s:Int},(plnL R p a s).2=0→∀ c ∈ p,((0≤c.w∧c.w≤(R.W.length:Int)-1)∧(0≤c.f∧c.f≤R.L-1))∧∃ e,takC R c=some e
 | [],_,_,_=>fun c hc=>by cases hc
 | d :: p,a,s,h=>by
  unfold plnL at h
  split at h
  ·simp at h
  ·rename_i h1
   have h1:=Classical.not_not.1 h1
   split at h
   ·simp at h
   ·rename_i e he
    split at h
    ·simp at h
    ·intro c hc
     rcases List.mem_cons.1 hc with rfl|hc
     ·exact ⟨h1,e,he⟩
     ·exact plnL_rng h c hc
theorem spnN_len {t:List Int}:∀ {n},(spnN t n).length≤n
 | 0=>by simp [spnN]
 | n+1=>by
  have:=spnN_len (t:=t) (n:=n)
  unfold spnN spnS
  split
  ·omega
  ·split
   ·rw [List.length_set];omega
   ·rw [List.length_append,List.length_cons,List.length_nil];omega
theorem spnN_b {t:List Int}:∀ {n:Nat},∀ y ∈ spnN t n,(0≤y.1∧y.1<(n:Int))∧(0≤y.2∧y.2<(n:Int))
 | 0=>by intro y hy;cases hy
 | n+1=>by
  have ih:=spnN_b (t:=t) (n:=n)
  intro y hy
  unfold spnN spnS at hy
  split at hy
  ·have:=ih y hy;omega
  ·split at hy
   ·rename_i h1 h2
    rcases List.mem_or_eq_of_mem_set hy with q|q
    ·have:=ih y q;omega
    ·have:=ih _ (getD_mem' (d:=((0:Int),(0:Int))) (show (spnN t n).length-1<(spnN t n).length by omega))
     rw [q];simp only;omega
   ·rcases List.mem_append.1 hy with q|q
    ·have:=ih y q;omega
    ·simp at q;rw [q];simp only;omega
theorem ldB_cellE {α:Type} {E:Enc α} {e:TypeId} {l:List α} {i o ver z:Nat} {x:α} {a:AVal} (hx:l[i]?=some x) (ho:(E.cells x)[o]?=some a):ldB (some (false,z)) (some (rowE E e l ver)) ver (i * E.z+o)=some a:=by
 have hoz:=(List.getElem?_eq_some_iff.1 ho).1
 rw [E.len] at hoz
 have hg:=flat_get E hx
 unfold rowE
 rw [ldB_cell]
 rw [← hg,List.getElem?_take,if_pos hoz,List.getElem?_drop] at ho
 exact ho
theorem bsS1 {lit:Bool} {H:Heap} {a b:Int}:bsA prog lit H 76 1 [(0,.agg [.int .i64 a,.int .i64 b])]=some (.slice (some ⟨H.length,0,0⟩) 1 1,H++[rowE encS 80 [(a,b)] 0]):=by
 simp [bsA,rowOf,Fc.el76,fillA,repCells,AVal.isN,AVal.cells,splice,rowE,flat,encS]
set_option maxRecDepth 100000 in
set_option maxHeartbeats 4000000 in
theorem run_Rest {base:Nat} {h:Heap} {v pv:AVal} {R:Rib} {p:List Ct} (hb:base≤h.length) (hA:RibAt h v R) (hsm:R.F.length≤1048576) (hP:Rows encC h pv p) :
  Ret prog raw base (.fn 21 [] []) [v,pv] h (fun w H=>Ext h H∧∃ u,w=.tuple [u,.int .i64 (rstE R p).2]∧Own encS 80 h.length H u (rstE R p).1):=by
 have hAe:=fun H (e:Ext h H)=>hA.ext e
 obtain ⟨fv,wv,rfl,hF,hW⟩:=hA
 have o1:=hF.one
 have o2:=hW.one
 have op:=hP.one
 obtain ⟨G0,eG0⟩:∃ G0,G0=h++[ribB R.L fv wv]:=⟨_,rfl⟩
 have x0:Ext h G0:=by rw [eG0];exact .app .refl
 have g0:G0[h.length]?=some (ribB R.L fv wv):=by rw [eG0];exact get_eq rfl
 have l0:G0.length=h.length+1:=by rw [eG0];simp
 obtain ⟨w1,H1,e1,x1,a,rfl,oa,hid⟩:=run_planned (base:=base) (h:=G0) (p:=p) (by omega) (hAe G0 x0) hsm (hP.ext x0)
 have l1:=x1.len
 have xx:=x0.trans x1
 have p0:=x1.get g0
 unfold ribB at eG0 g0 p0
 by_cases c0:(plnE R p).2=0
 ·obtain ⟨id,rfl,hidl,hD⟩:=hid c0
  have hck:chkR R=0:=by
   cases Classical.em (chkR R=0) with
   | inl q=>exact q
   | inr q=>unfold plnE at c0;rw [if_pos q] at c0;exact absurd c0 q
  have hR:=chkR_iff.1 hck
  have hL:=hR.L
  have hpl:=hP.1
  have hrng:=plnL_rng (R:=R) (p:=p) (a:=0) (s:=0) (by have:=c0;unfold plnE at this;rwa [if_neg (by simp [hck])] at this)
  rw [c0] at e1
  have re:rstE R p=(spnN (tknL R p []) R.L.toNat,0):=by unfold rstE;rw [if_neg (by simp [c0])]
  rw [re]
  obtain ⟨T,eT⟩:∃ T,T=tknL R p []:=⟨_,rfl⟩
  rw [← eT]
  obtain ⟨mb,emb⟩:∃ mb,mb=H1.length:=⟨_,rfl⟩
  obtain ⟨H2,eH2⟩:∃ H2,H2=H1++[⟨.map (mpB []),0⟩]:=⟨_,rfl⟩
  have x2:Ext H1 H2:=by rw [eH2];exact .app .refl
  have gm:H2[mb]?=some ⟨.map (mpB []),0⟩:=by rw [eH2];exact get_eq emb
  have l2:H2.length=mb+1:=by rw [eH2,emb];simp
  have hn:=(hP.ext (xx.trans x2)).len (P:=prog) Fc.el41
  have eH2':H1++[(⟨.map [],0⟩:ABlk)]=H2:=eH2.symm
  refine ret_raw func21 rfl (by kernel_rfl) ?_
  have hsp:=@Nat.succ_ne_zero;repeat' (first|simp (disch:=first|exact dqb|fail) only [go_sem,↓reduceIte,hsp,← eG0,g0,e1,eq_self,eH2',← emb,hn]|refine WP_drw ?_|refine cnd_intro (fun hsp=>?_) fun hsp=>?_)
  refine WP_count [(11,16),(33,53)] 0 p.length (Nat.zero_le _) (fun _ i fr H=>fr 33=.int .i64 (i:Int)∧Ext H1 H∧mb<H.length∧∃ ks,H[mb]?=some ⟨.map (mpB ks),0⟩∧tknL R (p.drop i) ks=T) ?_ ?_ ?_
  ·exact ⟨by (simp (disch:=first|exact dqb|fail) only [go_sem,↓reduceIte,Int.natCast_zero];first|done|rfl),x2,by omega,[],gm,by rw [List.drop_zero,eT]⟩
  ·rintro i fr H hi0 hi hA ⟨r33,xH,lH,ks,gk,htk⟩
   have q2:=hA 2 rfl
   have q4:=hA 4 rfl
   have q5:=hA 5 rfl
   have q6:=hA 6 rfl
   have q9:=hA 9 rfl
   have q31:=hA 31 rfl
   have q32:=hA 32 rfl
   try simp (disch:=first|exact dqb|fail) only [go_sem,↓reduceIte] at q2 q4 q5 q6 q9 q31 q32
   have hlt:((i:Int)<(p.length:Int))=True:=eq_true (by omega)
   obtain ⟨c,ec⟩:∃ c,c=p[i]:=⟨_,rfl⟩
   have hx:p[i]?=some c:=by rw [ec];exact List.getElem?_eq_getElem hi
   rw [List.drop_eq_getElem_cons hi,← ec,tknL] at htk
   have iP:=hP.ext (xx.trans xH)
   have a1:=ct_ad iP hi
   have b1:=ct_ld iP hx
   obtain ⟨⟨c1,c2⟩,_⟩:=hrng c (List.mem_of_getElem? hx)
   obtain ⟨k,ek⟩:=Int.eq_ofNat_of_zero_le c1.1
   obtain ⟨x,ex⟩:=Int.eq_ofNat_of_zero_le c2.1
   have hwk:R.W[k]?=some (R.W[k]'(by omega)):=List.getElem?_eq_getElem (by omega)
   generalize R.W[k]'(by omega)=w at hwk
   obtain ⟨H3,eH3⟩:∃ H3,H3=H++[cutB c]:=⟨_,rfl⟩
   have x3:Ext H H3:=by rw [eH3];exact .app .refl
   have gc:H3[H.length]?=some (cutB c):=by rw [eH3];exact get_eq rfl
   have l3:H3.length=H.length+1:=by rw [eH3];simp
   have lH1:=xH.len
   obtain ⟨v4,H4,e4,x4,ov,rfl,oV⟩:=run_units (base:=base) (h:=H3) (j:=c.j) (by omega) (hD.ext (xH.trans x3)) hR hwk (show x<R.L.toNat by omega)
   rw [← ek,← ex] at e4
   have l4:=x4.len
   have etu:takU R c=(uniO R w x c.j).1:=by unfold takU;rw [ek,Int.toNat_natCast,hwk];simp only;rw [ex,Int.toNat_natCast]
   rw [etu] at htk
   obtain ⟨us,eus⟩:∃ us,us=(uniO R w x c.j).1:=⟨_,rfl⟩
   rw [← eus] at oV htk
   have husm:Small us:=by
    rw [eus];unfold uniO
    split
    ·exact ⟨by simp,fun y hy=>by simp at hy⟩
    ·obtain ⟨u,hu1,hu2,hUK,_⟩:=uniP_k (w:=w) (j:=c.j) hR (show x<R.L.toNat by omega)
     exact unK_small hUK (by omega)
   have oov:=oV.one
   have hnu:=lenI (own_ints oV husm)
   have gk4:=(x3.trans x4).get gk
   have husl:=husm.1
   unfold cutB at eH3 gc
   have hsp:=@Nat.succ_ne_zero;repeat' (first|simp (disch:=first|exact dqb|fail) only [go_sem,↓reduceIte,hsp,r33,q2,q4,q5,q6,q9,q31,q32,hlt,a1,b1,← eH3,gc,e4,hnu]|refine WP_drw ?_|refine cnd_intro (fun hsp=>?_) fun hsp=>?_)
   refine WP_count [(16,16),(46,52)] 0 us.length (Nat.zero_le _) (fun _ m fr K=>fr 46=.int .i64 (m:Int)∧Ext H1 K∧mb<K.length∧K[mb]?=some ⟨.map (mpB ((us.take m).foldl insK ks)),0⟩∧Own encI 3 H3.length K ov us) ?_ ?_ ?_
   ·exact ⟨by (simp (disch:=first|exact dqb|fail) only [go_sem,↓reduceIte,Int.natCast_zero];first|done|rfl),(xH.trans x3).trans x4,by omega,by rw [List.take_zero];exact gk4,oV⟩
   ·rintro m fr2 K hm0 hm hA2 ⟨r46,xK,lK,gK,oK⟩
    have d2:=hA2 2 rfl
    have d4:=hA2 4 rfl
    have d5:=hA2 5 rfl
    have d6:=hA2 6 rfl
    have d9:=hA2 9 rfl
    have d31:=hA2 31 rfl
    have d32:=hA2 32 rfl
    have d33:=hA2 33 rfl
    have d44:=hA2 44 rfl
    have d45:=hA2 45 rfl
    try simp (disch:=first|exact dqb|fail) only [go_sem,↓reduceIte,q2,q4,q5,q6,q9,q31,q32] at d2 d4 d5 d6 d9 d31 d32 d33 d44 d45
    have hlt2:((m:Int)<(us.length:Int))=True:=eq_true (by omega)
    have iK:=own_ints oK husm
    have hl0:=loadI iK hm
    have ha0:=adrI (i:=(m:Int)) (by omega) iK (by omega)
    rw [Int.toNat_natCast] at ha0
    have hup:=upd_mp (base:=base) (k:=us.getD m 0) (by omega) gK
    have hsp:=@Nat.succ_ne_zero;repeat' (first|simp (disch:=first|exact dqb|fail) only [go_sem,↓reduceIte,hsp,r46,d2,d4,d5,d6,d9,d31,d32,d33,d44,d45,q2,q4,q5,q6,q9,q31,q32,hlt2,hl0,ha0,hup]|refine WP_drw ?_|refine cnd_intro (fun hsp=>?_) fun hsp=>?_)
    refine ⟨agq,by omega,xK.set (by omega),lK,?_,oK.set (by omega)⟩
    rw [List.take_add_one,getD_some (d:=0) hm,List.foldl_append];rfl
   ·rintro fr2 K hA2 ⟨r46,xK,lK,gK,oK⟩
    have d2:=hA2 2 rfl
    have d4:=hA2 4 rfl
    have d5:=hA2 5 rfl
    have d6:=hA2 6 rfl
    have d9:=hA2 9 rfl
    have d31:=hA2 31 rfl
    have d32:=hA2 32 rfl
    have d33:=hA2 33 rfl
    have d44:=hA2 44 rfl
    have d45:=hA2 45 rfl
    try simp (disch:=first|exact dqb|fail) only [go_sem,↓reduceIte,q2,q4,q5,q6,q9,q31,q32] at d2 d4 d5 d6 d9 d31 d32 d33 d44 d45
    have hlt2:((us.length:Int)<(us.length:Int))=False:=eq_false (by omega)
    have d33:=hA2 33 rfl
    simp (disch:=first|exact dqb|fail) only [go_sem,↓reduceIte,r33] at d33
    rw [List.take_length] at gK
    have hsp:=@Nat.succ_ne_zero;repeat' (first|simp (disch:=first|exact dqb|fail) only [go_sem,↓reduceIte,hsp,r46,d33,d2,d4,d5,d6,d9,d31,d32,d33,d44,d45,q2,q4,q5,q6,q9,q31,q32,hlt2]|refine WP_drw ?_|refine cnd_intro (fun hsp=>?_) fun hsp=>?_)
    exact ⟨agq,by omega,xK,lK,_,gK,htk⟩
  ·rintro fr H hA ⟨r33,xH,lH,ks,gk,htk⟩
   have q2:=hA 2 rfl
   have q4:=hA 4 rfl
   have q5:=hA 5 rfl
   have q6:=hA 6 rfl
   have q9:=hA 9 rfl
   have q31:=hA 31 rfl
   have q32:=hA 32 rfl
   try simp (disch:=first|exact dqb|fail) only [go_sem,↓reduceIte] at q2 q4 q5 q6 q9 q31 q32
   have hlt:((p.length:Int)<(p.length:Int))=False:=eq_false (by omega)
   rw [List.drop_length,tknL] at htk
   rw [htk] at gk
   have p0H:=xH.get p0
   have hLn:R.L=(R.L.toNat:Int):=by omega
   have hsp:=@Nat.succ_ne_zero;repeat' (first|simp (disch:=first|exact dqb|fail) only [go_sem,↓reduceIte,hsp,r33,q2,q4,q5,q6,q9,q31,q32,hlt,p0H]|refine WP_drw ?_|refine cnd_intro (fun hsp=>?_) fun hsp=>?_)
   refine WP_count [(17,19),(56,91)] 0 R.L.toNat (Nat.zero_le _) (fun _ u fr K=>fr 56=.int .i64 (u:Int)∧Ext H1 K∧mb<K.length∧K[mb]?=some ⟨.map (mpB T),0⟩∧∃ ov,fr 17=ov∧Own encS 80 (mb+1) K ov (spnN T u)) ?_ ?_ ?_
   ·exact ⟨by (simp (disch:=first|exact dqb|fail) only [go_sem,↓reduceIte,Int.natCast_zero];first|done|rfl),xH,lH,gk,_,by simp (disch:=first|exact dqb|fail) only [go_sem,↓reduceIte],Own.nil⟩
   ·rintro u fr2 K hu0 hu hA2 ⟨r56,xK,lK,gK,ov,r17,oK⟩
    have d4:=hA2 4 rfl
    have d5:=hA2 5 rfl
    have d9:=hA2 9 rfl
    have d55:=hA2 55 rfl
    try simp (disch:=first|exact dqb|fail) only [go_sem,↓reduceIte,q4,q5,q9] at d4 d5 d9 d55
    have hlt2:((u:Int)<R.L)=True:=eq_true (by omega)
    have hlk:=look_mp (k:=(u:Int)) gK
    have oov:=oK.one
    have hsl:=spnN_len (t:=T) (n:=u)
    have hno:=own_len oK Fc.el76 (by omega)
    have hsb:=spnN_b (t:=T) (n:=u)
    have hst:spnN T (u+1)=spnS T (spnN T u) u:=rfl
    obtain ⟨o,eo⟩:∃ o,o=spnN T u:=⟨_,rfl⟩
    rw [← eo] at oK hsl hno hsb hst
    unfold spnS at hst
    by_cases d1:(u:Int) ∈ T
    ·rw [decide_eq_true d1] at hlk
     rw [if_pos d1] at hst
     have hsp:=@Nat.succ_ne_zero;repeat' (first|simp (disch:=first|exact dqb|fail) only [go_sem,↓reduceIte,hsp,r56,r17,d4,d5,d9,d55,q2,q4,q5,q6,q9,q31,q32,hlt2,hno,hlk]|refine WP_drw ?_|refine cnd_intro (fun hsp=>?_) fun hsp=>?_)
     exact ⟨agq,by omega,xK,lK,gK,ov,rfl,by rw [hst];exact oK⟩
    ·rw [decide_eq_false d1] at hlk
     rw [if_neg d1] at hst
     by_cases d2:0<o.length
     ·have t2:((o.length:Int) > 0)=True:=eq_true (by omega)
      have hlast:o[o.length-1]?=some (o.getD (o.length-1) (0,0)):=getD_some (by omega)
      obtain ⟨la,ela⟩:∃ la,la=o.getD (o.length-1) (0,0):=⟨_,rfl⟩
      rw [← ela] at hlast hst
      have hlb:=hsb la (List.mem_of_getElem? hlast)
      have el:((o.length:Int)-1).toNat=o.length-1:=by omega
      rcases oK with ⟨rfl,q0⟩|⟨oid,over,rfl,g1,g2,g3⟩
      ·rw [q0] at d2;simp at d2
      ·have ld1:∀ z,ldB (some (false,z)) (some (rowE encS 80 o over)) over ((o.length-1) * 2+1)=some (.int .i64 la.2):=fun z=>ldB_cellE (E:=encS) hlast rfl
       have lg1:=lt_of_get g1
       by_cases d3:la.2=(u:Int)-1
       ·have t3:(la.2=(u:Int)-1)=True:=eq_true d3
        rw [if_pos ⟨d2,d3⟩] at hst
        have st1:∀ (F:ABlk→Heap),stQ base oid (some (rowE encS 80 o over)) over ((o.length-1) * 2+1) [.int .i64 (u:Int)] F=some (F (rowE encS 80 (o.set (o.length-1) (la.1,(u:Int))) over)):=fun F=>stQ_cellE (E:=encS) (i:=o.length-1) (o:=1) (y:=(la.1,(u:Int))) hlast (by decide) rfl rfl (by omega)
        have hsp:=@Nat.succ_ne_zero;repeat' (first|simp (disch:=first|exact dqb|fail) only [go_sem,↓reduceIte,hsp,r56,r17,d4,d5,d9,d55,q2,q4,q5,q6,q9,q31,q32,hlt2,hno,hlk,t2,el,g1,ld1,t3,st1]|refine WP_drw ?_|refine cnd_intro (fun hsp=>?_) fun hsp=>?_)
        refine ⟨agq,by omega,xK.set (by omega),lK,gK,_,rfl,?_⟩
        rw [hst]
        exact .inr ⟨oid,over,by rw [List.length_set],by rw [List.getElem?_set_self lg1],by omega,by rw [List.length_set];exact g3⟩
       ·have t3:(la.2=(u:Int)-1)=False:=eq_false d3
        rw [if_neg (fun z=>d3 z.2)] at hst
        obtain ⟨K1,eK1⟩:∃ K1,K1=K++[rowE encS 80 [((u:Int),(u:Int))] 0]:=⟨_,rfl⟩
        have y1:Ext K K1:=by rw [eK1];exact .app .refl
        have bs1:=fun lit=>bsS1 (lit:=lit) (H:=K) (a:=(u:Int)) (b:=(u:Int))
        rw [← eK1] at bs1
        have ly:=y1.len
        obtain ⟨u',K2,ea,oK2,l2',ex2,one2,kk2⟩:=(Own.ext (.inr ⟨oid,over,rfl,g1,g2,g3⟩:Own encS 80 (mb+1) K _ o) y1).appendRX (P:=prog) (x:=.slice (some ⟨K.length,0,0⟩) 1 1) (m:=[((u:Int),(u:Int))]) (base:=base) (t:=76) (Rows.own (by rw [eK1];exact get_eq rfl) rfl (by simp)) Fc.el76 encS_sc (by omega) (by omega) (by simp) (by simp;omega)
        have xK2:=ex2 H1 (by omega) (xK.trans y1)
        have gK2:K2[mb]?=some ⟨.map (mpB T),0⟩:=kk2 mb _ (y1.get gK) (fun l' ver q=>by simp [rowE] at q)
        have hsp:=@Nat.succ_ne_zero;repeat' (first|simp (disch:=first|exact dqb|fail) only [go_sem,↓reduceIte,hsp,r56,r17,d4,d5,d9,d55,q2,q4,q5,q6,q9,q31,q32,hlt2,hno,hlk,t2,el,g1,ld1,t3,bs1,ea]|refine WP_drw ?_|refine cnd_intro (fun hsp=>?_) fun hsp=>?_)
        exact ⟨agq,by omega,xK2,by omega,gK2,u',rfl,by rw [hst];exact oK2⟩
     ·have t2:((o.length:Int) > 0)=False:=eq_false (by omega)
      rw [if_neg (fun z=>d2 z.1)] at hst
      obtain ⟨K1,eK1⟩:∃ K1,K1=K++[rowE encS 80 [((u:Int),(u:Int))] 0]:=⟨_,rfl⟩
      have y1:Ext K K1:=by rw [eK1];exact .app .refl
      have bs1:=fun lit=>bsS1 (lit:=lit) (H:=K) (a:=(u:Int)) (b:=(u:Int))
      rw [← eK1] at bs1
      have ly:=y1.len
      obtain ⟨u',K2,ea,oK2,l2',ex2,one2,kk2⟩:=(oK.ext y1).appendRX (P:=prog) (x:=.slice (some ⟨K.length,0,0⟩) 1 1) (m:=[((u:Int),(u:Int))]) (base:=base) (t:=76) (Rows.own (by rw [eK1];exact get_eq rfl) rfl (by simp)) Fc.el76 encS_sc (by omega) (by omega) (by simp) (by simp;omega)
      have xK2:=ex2 H1 (by omega) (xK.trans y1)
      have gK2:K2[mb]?=some ⟨.map (mpB T),0⟩:=kk2 mb _ (y1.get gK) (fun l' ver q=>by simp [rowE] at q)
      have hsp:=@Nat.succ_ne_zero;repeat' (first|simp (disch:=first|exact dqb|fail) only [go_sem,↓reduceIte,hsp,r56,r17,d4,d5,d9,d55,q2,q4,q5,q6,q9,q31,q32,hlt2,hno,hlk,t2,bs1,ea]|refine WP_drw ?_|refine cnd_intro (fun hsp=>?_) fun hsp=>?_)
      exact ⟨agq,by omega,xK2,by omega,gK2,u',rfl,by rw [hst];exact oK2⟩
   ·rintro fr2 K hA2 ⟨r56,xK,lK,gK,ov,r17,oK⟩
    have d4:=hA2 4 rfl
    have d5:=hA2 5 rfl
    have d9:=hA2 9 rfl
    have d55:=hA2 55 rfl
    try simp (disch:=first|exact dqb|fail) only [go_sem,↓reduceIte,q4,q5,q9] at d4 d5 d9 d55
    have hlt2:(((R.L.toNat:Nat):Int)<R.L)=False:=eq_false (by omega)
    have oov:=oK.one
    have hsp:=@Nat.succ_ne_zero;repeat' (first|simp (disch:=first|exact dqb|fail) only [go_sem,↓reduceIte,hsp,r56,r17,d4,d5,d9,d55,q2,q4,q5,q6,q9,q31,q32,hlt2]|refine WP_drw ?_|refine cnd_intro (fun hsp=>?_) fun hsp=>?_)
    exact ⟨xx.trans xK,ov,rfl,oK.low (by omega)⟩
 ·have t0:((plnE R p).2=0)=False:=eq_false c0
  have re:rstE R p=([],(plnE R p).2):=by unfold rstE;rw [if_pos c0]
  rw [re]
  refine ret_raw func21 rfl (by kernel_rfl) ?_
  have hsp:=@Nat.succ_ne_zero;repeat' (first|simp (disch:=first|exact dqb|fail) only [go_sem,↓reduceIte,hsp,← eG0,g0,e1,t0]|refine WP_drw ?_|refine cnd_intro (fun hsp=>?_) fun hsp=>?_)
  exact ⟨xx,_,rfl,Own.nil⟩
end Go.AM
namespace Go.AM
open Go.Proofs.Tryz
section
variable {α:Type} {E:Enc α} {P:Program} {base:Nat} {h:Heap} {v:AVal} {l:List α} {t e:TypeId} {zs:List AVal}
theorem Rows.nilEq2 (hR:Rows E h v l) (ht:P.underlying t=some (.slice e)):(v=.slice none 0 0∧l=[]∧binA P .eql t v (.slice .none 0 0)=some (.bool true)) ∨ binA P .eql t v (.slice .none 0 0)=some (.bool false):=by
 rcases hR.2 with ⟨rfl,rfl⟩|⟨rfl,rfl⟩|⟨r,k,c,e,row,ro,rfl,_⟩
 ·exact .inl ⟨rfl,rfl,by simp [binA,eqT,eqDepth,ht,nilS]⟩
 ·exact .inr (by simp [binA,eqT,eqDepth,ht,nilS])
 ·exact .inr (by simp [binA,eqT,eqDepth,ht,nilS])
theorem app_empE (hR:Rows E h v l) (hl:l ≠ []) (hs:∀ y,(E.cells y).all AVal.scalar=true) (hsz:l.length<2147483648) (ht:elS P t=some (e,E.z,zs)) :
  appendA P base h t .emp v=some (.slice (some ⟨h.length,0,0⟩) l.length l.length,h++[rowE E e l 0]):=by
 have hn:l.length ≠ 0:=fun q=>hl (List.eq_nil_of_length_eq_zero q)
 simp only [appendA,ht,hR.lenA,hR.firstN,flat_scalar hs,if_true]
 rw [if_neg hn,if_pos (show l.length<2 ^ 31 by omega)]
 first|done|rfl
end
end Go.AM
namespace Go.AM
open Go.Proofs.Tryz
attribute [-go_sem] put_ne put_same
attribute [local go_sem ↓] put_if
def rseE (R:Rib) (k:Int):Int × Int:=if chkR R ≠ 0 then (0,chkR R) else if ¬ (0≤k∧k≤(R.W.length:Int)-1) then (0,1) else match rseL R k.toNat with
 | none=>(0,6)
 | some p=>(p,0)
def wPr (w:Wnt) (p:Int):Wnt:={ w with pr:=p }
end Go.AM
namespace Go.AM
open Go.Proofs.Tryz
attribute [-go_sem] put_ne put_same
attribute [local go_sem ↓] put_if
section
variable {base id ver:Nat} {h:Heap} {m:List Int}
abbrev iB (m:List Int) (ver:Nat):ABlk:=srB m 3 ver
end
attribute [-go_sem] bin_shr
end Go.AM
namespace Go.AM
open Go.Proofs.Tryz
attribute [-go_sem] put_ne put_same
attribute [local go_sem ↓] put_if
def dmgE (R:Rib) (u:Int):Int × Int:=if chkR R ≠ 0 then (0,chkR R) else dmgL R u
def menE (R:Rib) (u:Int):Int × Int:=if chkR R ≠ 0 then (0,chkR R) else menL R u
end Go.AM
namespace Go.AM
def tenR:Rib:=⟨10,[3,5],[⟨4,10,3,1,1⟩,⟨3,6,1,0,2⟩]⟩
theorem ten_chk:chkR tenR=0:=by kernel_rfl
theorem ten_all:allE tenR=17:=by kernel_rfl
end Go.AM
namespace Go.AM
open Go.Proofs.Tryz
attribute [-go_sem] put_ne put_same
attribute [local go_sem ↓] put_if
end Go.AM
namespace Go.AM
open Go.Proofs.Tryz
attribute [-go_sem] put_ne put_same
attribute [local go_sem ↓] put_if
theorem bs2I {lit:Bool} {H:Heap} {a b:Int} (hl:lit=false):bsA prog lit H 35 2 [(0,.int .i64 a),(1,.int .i64 b)]=some (.slice (some ⟨H.length,0,0⟩) 2 2,H++[rowB [a,b] 0]):=by
 subst hl;simp [bsA,rowOf,Fc.el35,fillA,repCells,AVal.isN,AVal.cells,splice,rowB,ints]
theorem bs2W {lit:Bool} {H:Heap} {a b:Wnt}:bsA prog lit H 36 2 [(0,.agg [.int .i64 a.lg,.int .i64 a.pr,.int .i64 a.off,.int .i64 a.fl,.int .i64 a.jn]),(1,.agg [.int .i64 b.lg,.int .i64 b.pr,.int .i64 b.off,.int .i64 b.fl,.int .i64 b.jn])]=some (.slice (some ⟨H.length,0,0⟩) 2 2,H++[rowE encW 74 [a,b] 0]):=by
 simp [bsA,rowOf,Fc.el36,fillA,repCells,AVal.isN,AVal.cells,splice,rowE,flat,encW]
theorem app_non {base id:Nat} {H:Heap} {l:List Int} {n:Nat} (hg:H[id]?=some (rowB l 0)) (hn:n=l.length):appendA prog base H 35 (.slice (some ⟨id,0,0⟩) n n) (.slice none 0 0)=some (.slice (some ⟨id,0,0⟩) n n,H):=by
 subst hn
 have hst:storeN base H (ARef.add ⟨id,0,0⟩ l.length) []=some H:=by
  unfold storeN
  simp only [ARef.add,hg,rowB]
  rw [if_pos ⟨trivial,by simp [ints_length],rfl,.inr rfl⟩]
  simp only [splice]
  rw [show (⟨.cells (ints l) 3 true false,0⟩:ABlk)=rowB l 0 from rfl,set_id hg]
 simp [appendA,Fc.el35,lenA,firstN,hst]
theorem run_Ten {base:Nat} {h:Heap} (hb:base≤h.length):Ret prog raw base (.fn 54 [] []) [.slice none 0 0] h (fun w H=>Ext h H∧RibAt H w tenR):=by
 obtain ⟨G,eG⟩:∃ G,G=h++[ribB 0 (.slice none 0 0) (.slice none 0 0)]:=⟨_,rfl⟩
 have xG:Ext h G:=by rw [eG];exact .app .refl
 have gG:G[h.length]?=some (ribB 0 (.slice none 0 0) (.slice none 0 0)):=by rw [eG];exact get_eq rfl
 have lG:G.length=h.length+1:=by rw [eG];simp
 obtain ⟨H1,eH1⟩:∃ H1,H1=G++[rowB [3,5] 0]:=⟨_,rfl⟩
 have x1:Ext G H1:=by rw [eH1];exact .app .refl
 have g1:H1[G.length]?=some (rowB [3,5] 0):=by rw [eH1];exact get_eq rfl
 have l1:H1.length=h.length+2:=by rw [eH1];simp [lG]
 obtain ⟨H2,eH2⟩:∃ H2,H2=H1++[rowE encW 74 [⟨4,10,3,1,1⟩,⟨3,6,1,0,2⟩] 0]:=⟨_,rfl⟩
 have x2:Ext H1 H2:=by rw [eH2];exact .app .refl
 have g2:H2[H1.length]?=some (rowE encW 74 [⟨4,10,3,1,1⟩,⟨3,6,1,0,2⟩] 0):=by rw [eH2];exact get_eq rfl
 have l2:H2.length=h.length+3:=by rw [eH2];simp [l1]
 have g02:=(x1.trans x2).get gG
 have b1:=fun lit (hl:lit=false)=>bs2I (lit:=lit) (H:=G) (a:=3) (b:=5) hl
 rw [← eH1] at b1
 have b2:=fun lit=>bs2W (lit:=lit) (H:=H1) (a:=⟨4,10,3,1,1⟩) (b:=⟨3,6,1,0,2⟩)
 rw [← eH2] at b2
 have ap:=app_non (base:=base) (id:=G.length) (n:=2) (H:=H1) g1 rfl
 unfold ribB at eG gG g02
 refine ret_raw func54 rfl (by kernel_rfl) ?_
 have hsp:=@Nat.succ_ne_zero;repeat' (first|simp (disch:=first|exact dqb|fail) only [go_sem,↓reduceIte,hsp,← eG,b1,ap,b2,g02]|refine WP_drw ?_|refine cnd_intro (fun hsp=>?_) fun hsp=>?_)
 have xf:Ext h (H2.set h.length (ribB 10 (.slice (some ⟨G.length,0,0⟩) 2 2) (.slice (some ⟨H1.length,0,0⟩) 2 2))):=Ext.set ((xG.trans x1).trans x2) (Nat.le_refl _)
 refine ⟨xf,_,_,rfl,ints_rowB (l:=[3,5]) ?_ ⟨by simp,fun y hy=>?_⟩ rfl,Rows.own (l:=([⟨4,10,3,1,1⟩,⟨3,6,1,0,2⟩]:List Wnt)) (e:=74) ?_ rfl (by simp)⟩
 ·rw [List.getElem?_set_ne (by omega)];exact x2.get g1
 ·simp at hy;omega
 ·rw [List.getElem?_set_ne (by omega)];exact g2
end Go.AM
namespace Go.AM
def upS (s:List Int × List Int) (y:Nat) (a c:Int):List Int × List Int:=if thB true (a,c) (s.1.getD y 0,s.2.getD y 0)=true then (s.1.set y a,s.2.set y c) else s
def upC (x:Nat) (t:List Int × List Int) (c:Ct × Int × Int):List Int × List Int:=upS t c.2.1.toNat (t.1.getD x 0+c.2.2) (t.2.getD x 0+1)
def upX (R:Rib) (x:Nat) (s:List Int × List Int):List Int × List Int:=(cutL R x).foldl (upC x) (upS s (x+1) (s.1.getD x 0) (s.2.getD x 0))
def upN (R:Rib) (f:Nat):Nat→List Int × List Int
 | 0=>(List.replicate (R.L.toNat+1) 0,List.replicate (R.L.toNat+1) 0)
 | n+1=>upX R (f+n) (upN R f n)
structure UpK (n:Nat) (s:List Int × List Int):Prop where
 l1:s.1.length=n+1
 l2:s.2.length=n+1
 b1:∀ y:Nat,0≤s.1.getD y 0∧s.1.getD y 0≤100 * (y:Int)
 b2:∀ y:Nat,0≤s.2.getD y 0∧s.2.getD y 0≤(y:Int)
def keyS (s:List Int × List Int):Nat→Int:=fun i=>key true (s.1.getD i 0,s.2.getD i 0)
theorem getD_setD {l:List Int} {i j:Nat} {a:Int} (hj:j<l.length):(l.set j a).getD i 0=if i=j then a else l.getD i 0:=by
 simp only [List.getD_eq_getElem?_getD,List.getElem?_set]
 by_cases e:i=j
 ·subst e;rw [if_pos rfl,if_pos hj,if_pos rfl];rfl
 ·rw [if_neg (fun q=>e q.symm),if_neg e]
theorem UpK.one {n y:Nat} {s:List Int × List Int} {a c:Int} (h:UpK n s) (hn:n≤60) (hy:y≤n) (ha:0≤a∧a≤100 * (y:Int)) (hc:0≤c∧c≤(y:Int)):UpK n (upS s y a c)∧keyS (upS s y a c)=rlx (keyS s) y (key true (a,c))∧∀ x,x<y→(upS s y a c).1.getD x 0=s.1.getD x 0∧(upS s y a c).2.getD x 0=s.2.getD x 0:=by
 have h1:=h.l1
 have h2:=h.l2
 have q1:=h.b1 y
 have q2:=h.b2 y
 have hk:=thB_key (b:=true) (n:=(a,c)) (m:=(s.1.getD y 0,s.2.getD y 0)) (by simp only;omega) (by simp only;omega)
 unfold upS
 by_cases e:thB true (a,c) (s.1.getD y 0,s.2.getD y 0)=true
 ·rw [if_pos e]
  have hlt:=hk.1 e
  refine ⟨⟨by simp [h1],by simp [h2],fun z=>?_,fun z=>?_⟩,?_,fun x hx=>?_⟩
  ·simp only
   rw [getD_setD (by omega)]
   split
   ·rename_i q;subst q;exact ha
   ·exact h.b1 z
  ·simp only
   rw [getD_setD (by omega)]
   split
   ·rename_i q;subst q;exact hc
   ·exact h.b2 z
  ·funext i
   unfold keyS rlx
   simp only
   rw [getD_setD (by omega),getD_setD (by omega)]
   by_cases q:i=y
   ·subst q
    rw [if_pos rfl,if_pos rfl,if_pos rfl]
    exact (Int.max_eq_right (Int.le_of_lt hlt)).symm
   ·rw [if_neg q,if_neg q,if_neg q]
  ·simp only
   rw [getD_setD (by omega),getD_setD (by omega),if_neg (by omega),if_neg (by omega)]
   exact ⟨rfl,rfl⟩
 ·rw [if_neg e]
  have hlt:¬ key true (s.1.getD y 0,s.2.getD y 0)<key true (a,c):=fun q=>e (hk.2 q)
  refine ⟨h,?_,fun x _=>⟨rfl,rfl⟩⟩
  funext i
  unfold keyS rlx
  split
  ·rename_i q;subst q;exact (Int.max_eq_left (Int.not_lt.1 hlt)).symm
  ·rfl
section
variable {R:Rib} {x:Nat}
theorem upX_part (hR:RibOk R) (hx:x<R.L.toNat) {s:List Int × List Int} (h:UpK R.L.toNat s):∀ (l:List (Ct × Int × Int)) (t:List Int × List Int) (K:Nat→Int),(∀ c ∈ l,c ∈ cutL R x)→UpK R.L.toNat t→t.1.getD x 0=s.1.getD x 0→t.2.getD x 0=s.2.getD x 0→keyS t=K →
  UpK R.L.toNat (l.foldl (upC x) t)∧keyS (l.foldl (upC x) t)=l.foldl (fun K' c=>rlx K' c.2.1.toNat (keyS s x+omg true c.2.2)) K∧(l.foldl (upC x) t).1.getD x 0=s.1.getD x 0∧(l.foldl (upC x) t).2.getD x 0=s.2.getD x 0
 | [],t,K,_,k,e1,e2,e3=>⟨k,e3,e1,e2⟩
 | c :: l,t,K,hl,k,e1,e2,e3=>by
  have hL:=hR.L
  obtain ⟨hb,hf,hw0,hw1,w,hw,ht⟩:=cutL_b hR hx (hl c (by simp))
  have htb:=takL_b hR (hR.W w (List.mem_of_getElem? hw)) hx ht
  have b1:=h.b1 x
  have b2:=h.b2 x
  obtain ⟨g1,g2,g3⟩:=k.one (y:=c.2.1.toNat) (a:=t.1.getD x 0+c.2.2) (c:=t.2.getD x 0+1) (by omega) (by omega) (by rw [e1];omega) (by rw [e2];omega)
  have g4:=g3 x (by omega)
  rw [List.foldl_cons,List.foldl_cons]
  refine upX_part hR hx h l _ _ (fun d hd=>hl d (by simp [hd])) g1 (g4.1.trans e1) (g4.2.trans e2) ?_
  show keyS (upS t c.2.1.toNat (t.1.getD x 0+c.2.2) (t.2.getD x 0+1))=_
  rw [g2,e1,e2,key_add,e3,Int.add_comm]
  rfl
theorem UpK.step (hR:RibOk R) (hx:x<R.L.toNat) {s:List Int × List Int} (h:UpK R.L.toNat s):UpK R.L.toNat (upX R x s)∧keyS (upX R x s)=fwX R (omg true) x (keyS s):=by
 have hL:=hR.L
 have b1:=h.b1 x
 have b2:=h.b2 x
 obtain ⟨g1,g2,g3⟩:=h.one (y:=x+1) (a:=s.1.getD x 0) (c:=s.2.getD x 0) (by omega) (by omega) (by omega) (by omega)
 have g4:=g3 x (by omega)
 obtain ⟨p1,p2,-,-⟩:=upX_part hR hx h (cutL R x) _ _ (fun _ q=>q) g1 g4.1 g4.2 g2
 exact ⟨p1,p2⟩
end
end Go.AM
namespace Go.AM
section
variable {R:Rib} {x:Nat}
end
end Go.AM
namespace Go.AM
section
variable {bad bad':Nat→Bool} {j:Bool} {lg:Int} {u:Nat}
end
def tlR (R:Rib) (u:Nat):Rib:=⟨R.L-u,(R.F.filter fun y=>decide ((u:Int)≤y)).map (·-(u:Int)),R.W⟩
section
variable {R:Rib} {u x:Nat}
theorem tlR_mem {y:Int}:y ∈ (tlR R u).F ↔ 0≤y∧y+u ∈ R.F:=by
 unfold tlR
 simp only [List.mem_map,List.mem_filter,decide_eq_true_eq]
 constructor
 ·rintro ⟨z,⟨h1,h2⟩,rfl⟩
  exact ⟨by omega,by rw [show z-(u:Int)+u=z by omega];exact h1⟩
 ·rintro ⟨h1,h2⟩
  exact ⟨y+u,⟨h2,by omega⟩,by omega⟩
theorem RibOk.tl (hR:RibOk R) (hu:u<R.L.toNat):RibOk (tlR R u):=by
 have hL:=hR.L
 refine ⟨by unfold tlR;simp only;omega,?_,hR.nW,hR.W,fun y hy=>?_,?_⟩
 ·unfold tlR
  rw [List.length_map]
  exact Nat.le_trans (List.length_filter_le _ _) hR.nF
 ·have:=tlR_mem.1 hy
  have h2:=hR.F _ this.2
  unfold tlR
  simp only
  omega
 ·unfold tlR
  simp only
  rw [List.pairwise_map]
  exact (hR.s.filter _).imp fun h=>by omega
end
end Go.AM
namespace Go.AM
structure WntLe (w w':Wnt):Prop where
 lg:w'.lg=w.lg
 pr:w.pr≤w'.pr
 off:w'.off≤w.off
 fl:w.fl≤w'.fl
 jn:w.jn≤w'.jn
theorem WntLe.refl {w:Wnt}:WntLe w w:=⟨rfl,Int.le_refl _,Int.le_refl _,Int.le_refl _,Int.le_refl _⟩
end Go.AM
namespace Go.AM
section
variable {R:Rib} {x:Nat}
end
end Go.AM
namespace Go.AM
open Go.Proofs.Tryz
namespace Flt
def idx {α:Type} (p:α→Bool):List α→Int
 | []=>-1
 | x :: xs=>if p x=true then 0 else (if idx p xs<0 then -1 else idx p xs+1)
section
variable {α:Type} (p:α→Bool)
theorem idx_ge:∀ l,-1≤idx p l
 | []=>by simp [idx]
 | x :: xs=>by
  have:=idx_ge xs
  simp only [idx];split
  ·omega
  ·split<;>omega
theorem idx_any:∀ l,(0≤idx p l) ↔ l.any p=true
 | []=>by simp [idx]
 | x :: xs=>by
  have:=idx_any xs
  have h0:=idx_ge p xs
  simp only [idx,List.any_cons]
  by_cases h:p x=true
  ·simp [h]
  ·simp only [h,if_false,Bool.false_or,Bool.false_eq_true]
   rw [← this];split<;>omega
theorem idx_drop:∀ (l:List α) (n:Nat),(∀ x ∈ l.take n,p x=false)→n≤l.length→idx p l=(if idx p (l.drop n)<0 then -1 else idx p (l.drop n)+n)
 | l,0,_,_=>by
  have:=idx_ge p l
  simp only [List.drop_zero];split<;>omega
 | [],n+1,_,hn=>by simp at hn
 | x :: xs,n+1,hp,hn=>by
  have h1:p x=false:=hp x (by simp)
  have ih:=idx_drop xs n (fun y hy=>hp y (by simp [hy])) (by simpa using hn)
  simp only [idx,h1,Bool.false_eq_true,if_false,List.drop_succ_cons]
  have h0:=idx_ge p (xs.drop n)
  rw [ih]
  split<;>rename_i h2<;>split<;>rename_i h3<;>(try split at h2)<;>(try split at h3)<;>(try omega)<;>(try split)<;>(try omega)
theorem idx_hit {l:List α} {n:Nat} (hn:n<l.length) (hb:∀ x ∈ l.take n,p x=false) (hp:p l[n]=true):idx p l=n:=by
 rw [idx_drop p l n hb (by omega),List.drop_eq_getElem_cons hn]
 simp [idx,hp]
theorem idx_miss {l:List α} (hb:∀ x ∈ l.take l.length,p x=false):idx p l=-1:=by
 rw [idx_drop p l l.length hb (Nat.le_refl _)]
 simp [idx]
theorem take_next {l:List α} {n:Nat} (hn:n<l.length) (hb:∀ x ∈ l.take n,p x=false) (hp:p l[n]=false):∀ x ∈ l.take (n+1),p x=false:=fun x hx=>by
 rw [List.take_add_one,List.getElem?_eq_getElem hn] at hx
 simp only [Option.toList,List.mem_append,List.mem_singleton] at hx
 rcases hx with hx|rfl
 ·exact hb x hx
 ·exact hp
end
structure Prt where
 rib:List Int
 each:Int
 ph:Int
 wv:Bool
structure Sgt where
 rib:Int
 lo:Int
 hi:Int
 bad:Bool
structure Lom where
 R:Int
 T:Int
 ps:List Prt
 ss:List Sgt
structure PrtV where
 v:AVal
 each:Int
 ph:Int
 wv:Bool
def norm (v:AVal):AVal:=if v.scalar=true then v else .ptr none
theorem norm_one {v:AVal} (h:One v):norm v=v:=by unfold norm;rw [if_pos h.2.2]
def encP:Enc PrtV:=⟨4,fun p=>[norm p.v,.int .i64 p.each,.int .i64 p.ph,.bool p.wv],fun _=>rfl,by decide⟩
def encS:Enc Sgt:=⟨4,fun s=>[.int .i64 s.rib,.int .i64 s.lo,.int .i64 s.hi,.bool s.bad],fun _=>rfl,by decide⟩
def encB:Enc (Int × Int × Int):=⟨3,fun b=>[.int .i64 b.1,.int .i64 b.2.1,.int .i64 b.2.2],fun _=>rfl,by decide⟩
def encT:Enc (Int × Int):=⟨2,fun b=>[.int .i64 b.1,.int .i64 b.2],fun _=>rfl,by decide⟩
theorem encS_sc:∀ y,(encS.cells y).all AVal.scalar=true:=fun y=>by simp [encS,AVal.scalar]
def Parts (h:Heap) (v:AVal) (ps:List Prt):Prop:=∃ vs:List PrtV,Rows encP h v vs∧vs.length=ps.length∧∀ (i:Nat) x p,vs[i]?=some x→ps[i]?=some p→Ints h x.v p.rib∧x.each=p.each∧x.ph=p.ph∧x.wv=p.wv
theorem Parts.ext {h H:Heap} {v:AVal} {ps:List Prt} (x:Parts h v ps) (e:Ext h H):Parts H v ps:=by
 obtain ⟨vs,h1,h2,h3⟩:=x
 exact ⟨vs,h1.ext e,h2,fun i x p a b=>⟨(h3 i x p a b).1.ext e,(h3 i x p a b).2⟩⟩
def LomAt (h:Heap) (v:AVal) (L:Lom):Prop:=∃ pv sv,v=.agg [.int .i64 L.R,.int .i64 L.T,pv,sv]∧Parts h pv L.ps∧Rows encS h sv L.ss
theorem LomAt.ext {h H:Heap} {v:AVal} {L:Lom} (x:LomAt h v L) (e:Ext h H):LomAt H v L:=by
 obtain ⟨pv,sv,h1,h2,h3⟩:=x
 exact ⟨pv,sv,h1,h2.ext e,h3.ext e⟩
theorem idxF_P {base:Nat} {h:Heap} {v g:AVal} {l:List (PrtV)} (p:PrtV→Bool) (hR:Rows encP h v l) (hg:∀ base x,x ∈ l→callL prog raw base g [.agg (encP.cells x)] h=some (.bool (p x),h)) :
  callL prog raw base (.fn 243 [] []) [v,g] h=some (.int .i64 (idx p l),h):=by
 have hb:l.length<2 ^ 60:=hR.1
 refine callL_run func243 rfl rfl ?_
 have hsp:=@Nat.succ_ne_zero;repeat' (first|simp (disch:=first|exact dqb|fail) only [go_sem,hsp,hR.len Fc.el59]|refine WP_drw ?_|refine cnd_intro (fun hsp=>?_) fun hsp=>?_)
 refine WP_loop (fun σ=>∃ n:Nat,σ.fr 8=.int .i64 (n:Int)∧σ.fr 0=v∧σ.fr 1=g∧σ.fr 7=.int .i64 (l.length:Int)∧σ.h=h∧n≤l.length∧(∀ x ∈ l.take n,p x=false)) (fun σ=>match σ.fr 8 with|.int _ x=>(((l.length:Nat):Int)-x).toNat|_=>0) ?_ ?_
 ·refine ⟨0,?_,?_,?_,?_,?_,by omega,?_⟩
  iterate 5 focus (first|rfl|(simp (disch:=first|exact dqb|fail) only [go_sem,Int.natCast_zero];first|done|rfl))
  intro x hx;simp at hx
 ·rintro ⟨fr,hp⟩ ⟨n,r8,r0,r1,r7,rh,hi,hP⟩
  dsimp only at r8 r0 r1 r7 rh hi hP
  subst rh
  by_cases hn:n<l.length
  ·have hlt:((n:Int)<(l.length:Int))=True:=eq_true (by omega)
   have hx:l[n]?=some l[n]:=List.getElem?_eq_getElem hn
   have had:=hR.addr (i:=(n:Int)) Fc.el59 Fc.ar59 (by omega) (by omega)
   rw [Int.toNat_natCast] at had
   have hld:=hR.load Fc.ty58 hx
   have hc:=fun base=>hg base l[n] (List.getElem_mem hn)
   cases hp:p l[n] with
   | true =>
    rw [hp] at hc
    have hsp:=@Nat.succ_ne_zero;repeat' (first|simp (disch:=first|exact dqb|fail) only [go_sem,hsp,r8,r0,r1,r7,hlt,had,hld,hc]|refine WP_drw ?_|refine cnd_intro (fun hsp=>?_) fun hsp=>?_)
    rw [idx_hit p hn hP hp]
    all_goals (first|refine fI ?_|refine fB ?_|refine fII ?_ ?_|refine fBI ?_ ?_|refine fIII ?_ ?_ ?_|refine fIIB ?_ ?_ ?_|skip);all_goals (try dsimp only);all_goals (try with_reducible rfl);all_goals (try omega)
   | false =>
    rw [hp] at hc
    have hsp:=@Nat.succ_ne_zero;repeat' (first|simp (disch:=first|exact dqb|fail) only [go_sem,hsp,r8,r0,r1,r7,hlt,had,hld,hc]|refine WP_drw ?_|refine cnd_intro (fun hsp=>?_) fun hsp=>?_)
    exact ⟨⟨n+1,by simp,by omega,take_next p hn hP hp⟩,by omega⟩
  ·have hlt:((n:Int)<(l.length:Int))=False:=eq_false (by omega)
   obtain rfl:n=l.length:=by omega
   have hsp:=@Nat.succ_ne_zero;repeat' (first|simp (disch:=first|exact dqb|fail) only [go_sem,hsp,r8,r0,r1,r7,hlt]|refine WP_drw ?_|refine cnd_intro (fun hsp=>?_) fun hsp=>?_)
   rw [idx_miss p hP]
   all_goals (first|refine fI ?_|refine fB ?_|refine fII ?_ ?_|refine fBI ?_ ?_|refine fIII ?_ ?_ ?_|refine fIIB ?_ ?_ ?_|skip);all_goals (try dsimp only);all_goals (try with_reducible rfl);all_goals (try omega)
theorem idxF_I {base:Nat} {h:Heap} {v g:AVal} {l:List (Int)} (p:Int→Bool) (hR:Ints h v l) (hg:∀ base x,x ∈ l→callL prog raw base g [.int .i64 x] h=some (.bool (p x),h)) :
  callL prog raw base (.fn 166 [] []) [v,g] h=some (.int .i64 (idx p l),h):=by
 have hb:l.length<2 ^ 60:=hR.1.1
 refine callL_run func166 rfl rfl ?_
 have hsp:=@Nat.succ_ne_zero;repeat' (first|simp (disch:=first|exact dqb|fail) only [go_sem,hsp,hR.len Fc.el35]|refine WP_drw ?_|refine cnd_intro (fun hsp=>?_) fun hsp=>?_)
 refine WP_loop (fun σ=>∃ n:Nat,σ.fr 8=.int .i64 (n:Int)∧σ.fr 0=v∧σ.fr 1=g∧σ.fr 7=.int .i64 (l.length:Int)∧σ.h=h∧n≤l.length∧(∀ x ∈ l.take n,p x=false)) (fun σ=>match σ.fr 8 with|.int _ x=>(((l.length:Nat):Int)-x).toNat|_=>0) ?_ ?_
 ·refine ⟨0,?_,?_,?_,?_,?_,by omega,?_⟩
  iterate 5 focus (first|rfl|(simp (disch:=first|exact dqb|fail) only [go_sem,Int.natCast_zero];first|done|rfl))
  intro x hx;simp at hx
 ·rintro ⟨fr,hp⟩ ⟨n,r8,r0,r1,r7,rh,hi,hP⟩
  dsimp only at r8 r0 r1 r7 rh hi hP
  subst rh
  by_cases hn:n<l.length
  ·have hlt:((n:Int)<(l.length:Int))=True:=eq_true (by omega)
   have hx:l[n]?=some l[n]:=List.getElem?_eq_getElem hn
   have had:=hR.addr (i:=(n:Int)) Fc.el35 Fc.ar35 (by omega) (by omega)
   rw [Int.toNat_natCast] at had
   have hld:=hR.load Fc.ty3 hx
   have hc:=fun base=>hg base l[n] (List.getElem_mem hn)
   cases hp:p l[n] with
   | true =>
    rw [hp] at hc
    have hsp:=@Nat.succ_ne_zero;repeat' (first|simp (disch:=first|exact dqb|fail) only [go_sem,hsp,r8,r0,r1,r7,hlt,had,hld,hc]|refine WP_drw ?_|refine cnd_intro (fun hsp=>?_) fun hsp=>?_)
    rw [idx_hit p hn hP hp]
    all_goals (first|refine fI ?_|refine fB ?_|refine fII ?_ ?_|refine fBI ?_ ?_|refine fIII ?_ ?_ ?_|refine fIIB ?_ ?_ ?_|skip);all_goals (try dsimp only);all_goals (try with_reducible rfl);all_goals (try omega)
   | false =>
    rw [hp] at hc
    have hsp:=@Nat.succ_ne_zero;repeat' (first|simp (disch:=first|exact dqb|fail) only [go_sem,hsp,r8,r0,r1,r7,hlt,had,hld,hc]|refine WP_drw ?_|refine cnd_intro (fun hsp=>?_) fun hsp=>?_)
    exact ⟨⟨n+1,by simp,by omega,take_next p hn hP hp⟩,by omega⟩
  ·have hlt:((n:Int)<(l.length:Int))=False:=eq_false (by omega)
   obtain rfl:n=l.length:=by omega
   have hsp:=@Nat.succ_ne_zero;repeat' (first|simp (disch:=first|exact dqb|fail) only [go_sem,hsp,r8,r0,r1,r7,hlt]|refine WP_drw ?_|refine cnd_intro (fun hsp=>?_) fun hsp=>?_)
   rw [idx_miss p hP]
   all_goals (first|refine fI ?_|refine fB ?_|refine fII ?_ ?_|refine fBI ?_ ?_|refine fIII ?_ ?_ ?_|refine fIIB ?_ ?_ ?_|skip);all_goals (try dsimp only);all_goals (try with_reducible rfl);all_goals (try omega)
theorem anyF_I {base:Nat} {h:Heap} {v g:AVal} {l:List (Int)} (p:Int→Bool) (hR:Ints h v l) (hg:∀ base x,x ∈ l→callL prog raw base g [.int .i64 x] h=some (.bool (p x),h)) :
  callL prog raw base (.fn 76 [] []) [v,g] h=some (.bool (l.any p),h):=by
 have hi:=fun base=>idxF_I (base:=base) p hR hg
 have h0:=idx_any p l
 refine callL_run func76 rfl rfl ?_
 have hsp:=@Nat.succ_ne_zero;repeat' (first|simp (disch:=first|exact dqb|fail) only [go_sem,hsp,hi]|refine WP_drw ?_|refine cnd_intro (fun hsp=>?_) fun hsp=>?_)
 refine fB ?_
 by_cases h1:l.any p=true
 ·rw [h1];simpa using h0.2 h1
 ·have h2:¬ 0≤idx p l:=fun h=>h1 (h0.1 h)
  simp only [Bool.not_eq_true] at h1
  rw [h1];simpa using h2
theorem not_I {base id:Nat} {h:Heap} {g:AVal} {x:Int} {b:Bool} (hid:h[id]?=some ⟨.cells [g] 132 false false,0⟩) (hg:∀ base T,callL prog raw base g [.int .i64 x] (h++T)=some (.bool b,h++T)) :
  callL prog raw base (.fn 182 [] [.ptr (some ⟨id,0,0⟩)]) [.int .i64 x] h=some (.bool (!b),h):=by
 have hgi:=lt_of_get hid
 have hg0:∀ base,callL prog raw base g [.int .i64 x] h=some (.bool b,h):=fun base=>by have:=hg base [];rwa [List.append_nil] at this
 refine callL_run func182 rfl rfl ?_
 have hsp:=@Nat.succ_ne_zero;repeat' (first|simp (disch:=first|exact dqb|fail) only [go_sem,hsp,hid,hg,hg0]|refine WP_drw ?_|refine cnd_intro (fun hsp=>?_) fun hsp=>?_)
 exact fB rfl
theorem every_I {base:Nat} {h:Heap} {v g:AVal} {l:List (Int)} (p:Int→Bool) (hR:Ints h v l) (hg:∀ base T x,x ∈ l→callL prog raw base g [.int .i64 x] (h++T)=some (.bool (p x),h++T)) (h1:One g) :
  callL prog raw base (.fn 101 [] []) [v,g] h=some (.bool (l.all p),h):=by
 have hc:=fun base=>anyF_I (base:=base) (fun x=>!p x) hR.app (fun base x hx=>not_I (x:=x) (get_eq rfl) (fun base T=>by have:=hg base ([⟨.cells [g] 132 false false,0⟩]++T) x hx;rwa [← List.append_assoc] at this))
 refine callL_run func101 rfl rfl ?_
 have hsp:=@Nat.succ_ne_zero;repeat' (first|simp (disch:=first|exact dqb|fail) only [go_sem,hsp,hc]|refine WP_drw ?_|refine cnd_intro (fun hsp=>?_) fun hsp=>?_)
 refine fB ?_
 rw [List.any_eq_not_all_not]
 simp
abbrev lomV (R T:Int) (pv sv:AVal):AVal:=.agg [.int .i64 R,.int .i64 T,pv,sv]
theorem run_inn {base:Nat} {h:Heap} {n lo hi:Int}:callL prog raw base (.fn 109 [] []) [.int .i64 n,.int .i64 lo,.int .i64 hi] h=some (.bool (decide (lo≤n∧n≤hi)),h):=by
 refine callL_run func109 rfl rfl ?_
 by_cases h1:lo≤n
 ·have t1:(n ≥ lo)=True:=eq_true h1
  have hsp:=@Nat.succ_ne_zero;repeat' (first|simp (disch:=first|exact dqb|fail) only [go_sem,hsp,t1]|refine WP_drw ?_|refine cnd_intro (fun hsp=>?_) fun hsp=>?_)
  refine fB ?_
  simp [h1]
 ·have t1:(n ≥ lo)=False:=eq_false h1
  have hsp:=@Nat.succ_ne_zero;repeat' (first|simp (disch:=first|exact dqb|fail) only [go_sem,hsp,t1]|refine WP_drw ?_|refine cnd_intro (fun hsp=>?_) fun hsp=>?_)
  refine fB ?_
  simp [h1]
attribute [go_sem] run_inn
theorem ints_inj:∀ {l m:List Int},ints l=ints m→l=m
 | [],[],_=>rfl
 | [],_ :: _,h=>by cases h
 | _ :: _,[],h=>by cases h
 | x :: l,y :: m,h=>by
  have h1:AVal.int .i64 x=.int .i64 y∧ints l=ints m:=List.cons.inj h
  have h2:x=y:=by have:=h1.1;injection this
  rw [h2,ints_inj h1.2]
end Flt
theorem Ints.uniq {h:Heap} {v:AVal} {l m:List Int} (a:Ints h v l) (b:Ints h v m):l=m:=by
 rcases a.2 with ⟨rfl,rfl⟩|⟨rfl,rfl⟩|⟨r,k,c,e,row,ro,rfl,h1,h2,_⟩
 ·rcases b.2 with ⟨_,rfl⟩|⟨hc,_⟩|⟨r,k,c,e,row,ro,hc,_⟩
  ·rfl
  ·cases hc
  ·cases hc
 ·rcases b.2 with ⟨hc,_⟩|⟨_,rfl⟩|⟨r,k,c,e,row,ro,hc,_⟩
  ·cases hc
  ·rfl
  ·cases hc
 ·rcases b.2 with ⟨hc,_⟩|⟨hc,_⟩|⟨r',k',c',e',row',ro',hc,g1,g2,_⟩
  ·cases hc
  ·cases hc
  ·simp only [AVal.slice.injEq,Option.some.injEq] at hc
   obtain ⟨rfl,hlen,_⟩:=hc
   rw [h1] at g1
   cases g1
   refine Flt.ints_inj ?_
   rw [← h2,← g2,hlen]
namespace Flt
open Classical in
noncomputable def rbOf (h:Heap) (x:PrtV):List Int:=if hx:∃ l,Ints h x.v l then Classical.choose hx else []
theorem rbOf_eq {h:Heap} {x:PrtV} {l:List Int} (a:Ints h x.v l):rbOf h x=l:=by
 have hx:∃ l,Ints h x.v l:=⟨l,a⟩
 unfold rbOf
 rw [dif_pos hx]
 exact (Classical.choose_spec hx).uniq a
noncomputable def toPrt (h:Heap) (x:PrtV):Prt:=⟨rbOf h x,x.each,x.ph,x.wv⟩
theorem Parts.map {h:Heap} {ps:List Prt} {vs:List PrtV} (h2:vs.length=ps.length) (h3:∀ (i:Nat) x p,vs[i]?=some x→ps[i]?=some p→Ints h x.v p.rib∧x.each=p.each∧x.ph=p.ph∧x.wv=p.wv):vs.map (toPrt h)=ps∧∀ x ∈ vs,Ints h x.v (toPrt h x).rib:=by
 have key:∀ (i:Nat) x p,vs[i]?=some x→ps[i]?=some p→toPrt h x=p∧Ints h x.v (toPrt h x).rib:=fun i x p a b=>by
  obtain ⟨q1,q2,q3,q4⟩:=h3 i x p a b
  have e:=rbOf_eq q1
  refine ⟨?_,by show Ints h x.v (rbOf h x);rw [e];exact q1⟩
  unfold toPrt
  rw [e,q2,q3,q4]
 refine ⟨List.ext_getElem (by rw [List.length_map,h2]) fun i a b=>?_,fun x hx=>?_⟩
 ·rw [List.getElem_map]
  have a':i<vs.length:=by simpa using a
  exact (key i _ _ (List.getElem?_eq_getElem a') (List.getElem?_eq_getElem b)).1
 ·obtain ⟨i,hi,rfl⟩:=List.getElem_of_mem hx
  exact (key i _ _ (List.getElem?_eq_getElem hi) (List.getElem?_eq_getElem (by omega))).2
def chkM (L:Lom):Int :=
 if ¬ (1≤L.R∧L.R≤6) ∨ ¬ (1≤L.T∧L.T≤12) ∨ ¬ (1≤(L.ps.length:Int)∧(L.ps.length:Int)≤6) ∨ (L.ss.length:Int) > 10 ∨ ¬ (L.ps.all fun p=>decide (0<p.rib.length))=true then 2 else
 if ¬ (L.ps.all fun p=>decide ((1≤p.each∧p.each≤4)∧(0≤p.ph∧p.ph≤p.each-1)))=true then 3 else
 if ¬ (L.ps.all fun p=>p.rib.all fun r=>decide (0≤r∧r≤L.R-1))=true ∨ ¬ (L.ss.all fun s=>decide ((0≤s.rib∧s.rib≤L.R-1)∧(0≤s.lo∧s.lo≤L.T-1)∧(0≤s.hi∧s.hi≤L.T-1)))=true then 1 else
 if ¬ (L.ps.all fun p=>riseB p.rib)=true ∨ ¬ (L.ss.all fun s=>decide (s.lo≤s.hi))=true then 4 else 0
theorem Parts.len {h:Heap} {v:AVal} {ps:List Prt} (x:Parts h v ps):lenOpA prog h 59 v=some (.int .i64 (ps.length:Int)):=by
 obtain ⟨vs,h1,h2,_⟩:=x
 have:=h1.len (P:=prog) Fc.el59
 rwa [h2] at this
theorem Parts.one {h:Heap} {v:AVal} {ps:List Prt} (x:Parts h v ps):One v:=by
 obtain ⟨vs,h1,_⟩:=x
 exact h1.one
def brkM (L:Lom) (b:Int × Int × Int):Int :=
 if ¬ (0≤b.1∧b.1≤(L.ps.length:Int)-1) then 1 else
 if ¬ (0≤b.2.1∧b.2.1≤L.T-1) ∨ ¬ (0≤b.2.2∧b.2.2≤L.T-1) ∨ b.2.1 > b.2.2 then 3 else 0
def hasB (s:Sgt) (x:Int × Int):Bool:=decide (x.1=s.rib∧s.lo≤x.2∧x.2≤s.hi)
end Flt
end Go.AM
namespace Go.AM
open Go.Proofs.Tryz
attribute [-go_sem] put_ne put_same
attribute [local go_sem ↓] put_if
namespace Flt
def thr (each ph:Int) (a:Nat):Nat→List Int
 | 0=>[]
 | n+1=>thr each ph a n++(if ((a+n:Nat):Int).tmod each=ph then [((a+n:Nat):Int)] else [])
def spotsR (p:Prt) (a n:Nat) (i:Nat):List (Int × Int):=(p.rib.take i).flatMap fun r=>(thr p.each p.ph a n).map fun t=>(r,t)
def spotsN (p:Prt) (a n:Nat):List (Int × Int):=p.rib.flatMap fun r=>(thr p.each p.ph a n).map fun t=>(r,t)
end Flt
end Go.AM
namespace Go.AM
open Go.Proofs.Tryz
namespace Flt
def splM (L:Lom) (b:Int × Int × Int):List (Int × Int) × Int :=
 if chkM L ≠ 0 then ([],chkM L) else if brkM L b ≠ 0 then ([],brkM L b) else (spotsN (L.ps.getD b.1.toNat ⟨[],1,0,false⟩) b.2.1.toNat (b.2.2+1-b.2.1).toNat,0)
end Flt
end Go.AM
namespace Go.AM
end Go.AM
namespace Go.AM
structure Bij (n:Int) (p q:Int→Int):Prop where
 to:∀ i,0≤i∧i<n→(0≤p i∧p i<n)∧q (p i)=i
 fro:∀ i,0≤i∧i<n→(0≤q i∧q i<n)∧p (q i)=i
end Go.AM
namespace Go.AM
def lexB:List Int→List Int→Bool
 | x :: a,y :: b=>if x=y then lexB a b else decide (x<y)
 | _,_=>false
end Go.AM
namespace Go.AM
namespace L3
abbrev Rw3:=Int × Int × Int
structure Lac where
 T:Int
 C:List Int
 R:List Rw3
def setB (T x:Int):Bool:=decide (0≤x∧x≤2 ^ T.toNat-1)
def subB (a b:Int):Bool:=decide (a.toNat &&& b.toNat=a.toNat)
def twB (l:List Int):Bool:=decide (¬ l.Nodup)
def chkL (L:Lac):Int :=
 if ¬ (1≤L.T∧L.T≤8) then 3 else
 if ¬ (1≤(L.C.length:Int)∧(L.C.length:Int)≤7) ∨ (L.R.length:Int) > 12 then 2 else
 if ¬ (L.C.all (setB L.T))=true ∨ ¬ (L.R.all fun r=>decide (0≤r.1∧r.1≤999) && setB L.T r.2.1)=true then 3 else
 if ¬ (L.R.all fun r=>setB L.T r.2.2 && subB r.2.2 r.2.1)=true then 8 else
 if twB L.C=true then 5 else 0
structure LacOk (L:Lac):Prop where
 T:1≤L.T∧L.T≤8
 n:1≤L.C.length∧L.C.length≤7
 m:L.R.length≤12
 c:∀ x ∈ L.C,0≤x∧x≤2 ^ L.T.toNat-1
 r:∀ r ∈ L.R,(0≤r.1∧r.1≤999)∧(0≤r.2.1∧r.2.1≤2 ^ L.T.toNat-1)∧(0≤r.2.2∧r.2.2≤2 ^ L.T.toNat-1)∧r.2.2.toNat &&& r.2.1.toNat=r.2.2.toNat
 d:L.C.Nodup
def fitB (L:Lac) (p k:Nat):Bool:=L.R.all fun r=>decide (r.1.toNat % L.C.length=p→(L.C.getD k 0).toNat &&& r.2.1.toNat=r.2.2.toNat)
def ordsF (fit:Nat→Nat→Bool) (n:Nat):Nat→List Int→List (List Int)
 | 0,l=>[l]
 | d+1,l=>(upto n).flatMap fun k=>if (fit l.length k.toNat && decide (k ∉ l))=true then ordsF fit n d (l++[k]) else []
def Ord (n:Nat) (l:List Int):Prop:=l.length=n∧(∀ x ∈ l,0≤x∧x<(n:Int))∧l.Nodup
def fnd (L:Lac):List (List Int):=ordsF (fitB L) L.C.length L.C.length []
def Xpl (L:Lac) (o:List Int):Prop:=∀ i,i<o.length→fitB L i (o.getD i 0).toNat=true
end L3
end Go.AM
namespace Go.AM
namespace L3
open Go.Proofs.Tryz
def encR:Enc Rw3:=⟨3,fun r=>[.int .i64 r.1,.int .i64 r.2.1,.int .i64 r.2.2],fun _=>rfl,by decide⟩
def encM:Enc (Int × Int):=⟨2,fun m=>[.int .i64 m.1,.int .i64 m.2],fun _=>rfl,by decide⟩
def LacAt (h:Heap) (v:AVal) (L:Lac):Prop:=∃ cv rv,v=.agg [.int .i64 L.T,cv,rv]∧Ints h cv L.C∧Rows encR h rv L.R
theorem LacAt.ext {h H:Heap} {v:AVal} {L:Lac} (x:LacAt h v L) (e:Ext h H):LacAt H v L:=by
 obtain ⟨cv,rv,rfl,h1,h2⟩:=x
 exact ⟨cv,rv,rfl,h1.ext e,h2.ext e⟩
section
variable {b:Nat} {H H':Heap} {v:AVal} {ts:List (List Int)}
def encZ:Enc AVal:=⟨1,fun v=>[norm v],fun _=>rfl,by decide⟩
def AllI (b:Nat) (H:Heap) (v:AVal) (ts:List (List Int)):Prop:=∃ vs:List AVal,Own encZ 35 b H v vs∧vs.length=ts.length∧∀ (i:Nat) x t,vs[i]?=some x→ts[i]?=some t→OwnE encI 3 0 H x t
theorem AllI.ext (x:AllI b H v ts) (e:Ext H H'):AllI b H' v ts:=by
 obtain ⟨vs,h1,h2,h3⟩:=x
 exact ⟨vs,h1.ext e,h2,fun i x t a c=>(h3 i x t a c).ext e⟩
theorem AllI.one (x:AllI b H v ts):One v:=by obtain ⟨vs,h1,_⟩:=x;exact h1.one
theorem AllI.low {b':Nat} (x:AllI b H v ts) (hb:b'≤b):AllI b' H v ts:=by
 obtain ⟨vs,h1,h2,h3⟩:=x
 exact ⟨vs,h1.low hb,h2,h3⟩
theorem AllI.rows (x:AllI b H v ts) (hl:ts.length<2 ^ 60):∃ vs,Rows encZ H v vs∧vs.length=ts.length:=by
 obtain ⟨vs,h1,h2,_⟩:=x
 exact ⟨vs,h1.rows (by omega),h2⟩
theorem AllI.len (x:AllI b H v ts) (hl:ts.length<2 ^ 60):lenOpA prog H 31 v=some (.int .i64 (ts.length:Int)):=by
 obtain ⟨vs,h1,h2,_⟩:=x
 have:=(h1.rows (by omega)).len (P:=prog) Fc.el31
 rwa [h2] at this
theorem AllI.at (x:AllI b H v ts) (hl:ts.length<2 ^ 60) {i:Nat} {t:List Int} (ht:ts[i]?=some t) :
  ∃ a w,indexAddrA prog 31 v (.int .i64 (i:Int))=some a∧(∀ K,Ext H K→loadP prog K 35 a=some w)∧OwnE encI 3 0 H w t:=by
 obtain ⟨vs,h1,h2,h3⟩:=x
 have hi:i<ts.length:=(List.getElem?_eq_some_iff.1 ht).1
 have hx:vs[i]?=some vs[i]:=List.getElem?_eq_getElem (by omega)
 have hR:=h1.rows (show vs.length<2 ^ 60 by omega)
 have ad:=hR.addr (P:=prog) (i:=(i:Int)) Fc.el31 Fc.ar31 (by omega) (by omega)
 rw [Int.toNat_natCast] at ad
 have hw:=h3 i _ _ hx ht
 refine ⟨_,_,ad,fun K e=>?_,hw⟩
 exact (hR.ext e).cell (P:=prog) Fc.ty35 hx (o:=0) (a:=vs[i]) (by simp only [encZ,norm_one hw.one];rfl)
end
end L3
end Go.AM
namespace Go.AM
namespace L3
open Go.Proofs.Tryz
attribute [-go_sem] put_ne put_same
attribute [local go_sem ↓] put_if
def KeepP (A:Nat) (pr:ABlk→Prop) (H H':Heap):Prop:=H.length≤H'.length∧∀ i x,A≤i→pr x→H[i]?=some x→H'[i]?=some x
section
variable {A:Nat} {pr:ABlk→Prop} {H H' H2:Heap}
theorem KeepP.refl:KeepP A pr H H:=⟨Nat.le_refl _,fun _ _ _ _ h=>h⟩
end
end L3
end Go.AM
