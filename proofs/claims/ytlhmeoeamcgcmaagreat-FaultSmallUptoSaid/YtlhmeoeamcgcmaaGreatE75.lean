/-
  Contracts: the most sights of which any two are apart, as the reference says it.
-/
import Derived.Test.YtlhmeoeamcgcmaaGreatE74
import Derived.Test.YtlhmeoeamcgcmaaGreatE71
set_option linter.unusedSimpArgs false
set_option linter.unusedVariables false
namespace Go.AM
open Go.Proofs.Tryz
attribute [-go_sem] put_ne put_same
attribute [local go_sem ↓] put_if
def encO:Enc Bool:=⟨1,fun b=>[.bool b],fun _=>rfl,by decide⟩
theorem flat_encO (l:List Bool):flat encO l=l.map .bool:=by
 induction l with
 | nil=>rfl
 | cons x l ih=>rw [flat_cons,ih];rfl
theorem stQ_encO {R:List Bool} {k base id:Nat} {e:TypeId} {b:Bool} {K:ABlk→Heap} (hb:base≤id) (hk:k<R.length):stQ base id (some (rowE encO e R 0)) 0 k [.bool b] K=some (K (rowE encO e (R.set k b) 0)):=by
 unfold rowE
 rw [flat_encO,stQ_own hb (by simp only [List.length_map,List.length_cons,List.length_nil];omega) (by simp [AVal.scalar])]
 simp only [splice,flat_encO,List.map_set]
theorem snocZO {A:Heap} {w v:AVal} {vs:List AVal} {b base:Nat} (hO:Own encZ 113 b A w vs) (h1:One v) (hb:base≤b) (hbh:b≤A.length) (hl:vs.length≤10000000) :
  ∃ x A',(∀ {lit:Bool},lit=true→bsA prog lit A 156 1 [(0,v)]=some (x,A'))∧Ext A A'∧∃ w' h',appendA prog base A' 156 w x=some (w',h')∧Own encZ 113 b h' w' (vs++[v])∧A.length≤h'.length∧(∀ G,G.length≤b→Ext G A→Ext G h')∧One w'∧KeepO encZ 113 A h':=by
 have hn:=norm_one h1
 rcases h1 with ⟨q1,q2,q3⟩
 have hr:rowOf prog 156 1 [(0,v)]=some (113,1,[v]):=by
  simp [rowOf,Fc.el156,fillA,repCells,q1,q2,q3,splice]
 by_cases hbare:AVal.bare v=true
 ·obtain ⟨w',h',a1,a2,a3,a4,a5,a6⟩:=hO.append1X (P:=prog) (y:=v) (a:=v) (base:=base) (t:=156) rfl (by simp only [encZ,hn]) Fc.el156 encZ_sc hb hbh (by omega)
  refine ⟨.vals [v],A,fun {lit} hlit=>?_,.refl,w',h',a1,a2,a3,a4,a5,a6⟩
  subst hlit
  simp only [bsA,hr]
  rw [if_neg (by decide),if_pos ⟨trivial,trivial,by simp [hbare]⟩]
 ·obtain ⟨w',h',a1,a2,a3,a4,a5,a6⟩:=(hO.app (T:=[rowE encZ 113 [v] 0])).appendRX (P:=prog) (x:=.slice (some ⟨A.length,0,0⟩) 1 1) (m:=[v]) (base:=base) (t:=156) (Rows.own (get_eq rfl) rfl (by simp)) Fc.el156 encZ_sc hb (by simp;omega) (by simp) (by simp;omega)
  refine ⟨.slice (some ⟨A.length,0,0⟩) 1 1,A++[rowE encZ 113 [v] 0],fun {lit} hlit=>?_,.app .refl,w',h',a1,a2,by simp at a3;omega,fun G hG e=>a4 G hG (e.trans (.app .refl)),a5,fun i y g hy=>a6 i y (get_app g) hy⟩
  simp only [bsA,hr]
  rw [if_neg (by decide),if_neg (fun q=>hbare (by simpa using q.2.2))]
  simp [rowE,flat,encZ,hn]
def AllO (b:Nat) (H:Heap) (v:AVal) (ts:List (List Bool)):Prop:=∃ vs:List AVal,Own encZ 113 b H v vs∧vs.length=ts.length∧∀ (i:Nat) x t,vs[i]?=some x→ts[i]?=some t→OwnE encO 4 0 H x t
section
variable {b:Nat} {H H':Heap} {v:AVal} {ts:List (List Bool)}
theorem AllO.ext (x:AllO b H v ts) (e:Ext H H'):AllO b H' v ts:=by
 obtain ⟨vs,h1,h2,h3⟩:=x
 exact ⟨vs,h1.ext e,h2,fun i x t a c=>(h3 i x t a c).ext e⟩
theorem AllO.one (x:AllO b H v ts):One v:=by obtain ⟨vs,h1,_⟩:=x;exact h1.one
theorem AllO.at (x:AllO b H v ts) (hl:ts.length<2 ^ 60) {i:Nat} {t:List Bool} (ht:ts[i]?=some t) :
  ∃ a w,indexAddrA prog 156 v (.int .i64 (i:Int))=some a∧(∀ K,Ext H K→loadP prog K 113 a=some w)∧OwnE encO 4 0 H w t:=by
 obtain ⟨vs,h1,h2,h3⟩:=x
 have hi:i<ts.length:=(List.getElem?_eq_some_iff.1 ht).1
 have hx:vs[i]?=some vs[i]:=List.getElem?_eq_getElem (by omega)
 have hR:=h1.rows (show vs.length<2 ^ 60 by omega)
 have ad:=hR.addr (P:=prog) (i:=(i:Int)) Fc.el156 Fc.ar156 (by omega) (by omega)
 rw [Int.toNat_natCast] at ad
 have hw:=h3 i _ _ hx ht
 refine ⟨_,_,ad,fun K e=>?_,hw⟩
 exact (hR.ext e).cell (P:=prog) Fc.ty113 hx (o:=0) (a:=vs[i]) (by simp only [encZ,norm_one hw.one];rfl)
theorem AllO.snoc {A:Heap} {w x:AVal} {t:List Bool} {base:Nat} (y:AllO b A w ts) (hx:OwnE encO 4 0 A x t) (hb:base≤b) (hbh:b≤A.length) (hl:ts.length≤10000000) :
  ∃ z A',(∀ {lit:Bool},lit=true→bsA prog lit A 156 1 [(0,x)]=some (z,A'))∧Ext A A'∧∃ w' h',appendA prog base A' 156 w z=some (w',h')∧AllO b h' w' (ts++[t])∧A.length≤h'.length∧(∀ G,G.length≤b→Ext G A→Ext G h')∧One w'∧KeepO encZ 113 A h':=by
 obtain ⟨vs,h1,h2,h3⟩:=y
 obtain ⟨z,A',a1,a2,w',h',a3,a4,a5,a6,a7,a8⟩:=snocZO (base:=base) h1 hx.one hb hbh (by omega)
 refine ⟨z,A',a1,a2,w',h',a3,⟨_,a4,by simp [h2],fun i p q g1 g2=>?_⟩,a5,a6,a7,a8⟩
 by_cases hi:i<vs.length
 ·rw [List.getElem?_append_left hi] at g1
  rw [List.getElem?_append_left (by omega)] at g2
  exact a8.ownE (h3 i p q g1 g2) (by decide)
 ·rw [List.getElem?_append_right (by omega)] at g1
  rw [List.getElem?_append_right (by omega)] at g2
  have e0:i-vs.length=0:=by
   have:=(List.getElem?_eq_some_iff.1 g1).1
   simp at this;omega
  rw [e0] at g1
  rw [show i-ts.length=0 by omega] at g2
  cases g1;cases g2
  exact a8.ownE hx (by decide)
end
noncomputable def apR (L:Lom) (a b:Nat):Bool:=((L.ss.getD a sgt0).bad && (L.ss.getD b sgt0).bad) && (decide (a=b) || aprB L a b)
noncomputable def pkB (L:Lom) (x:List Int):Bool:=x.all fun a=>x.all fun b=>apR L a.toNat b.toNat
noncomputable def pckR (L:Lom) (j:Nat):List Int:=((setsR L.ss.length j).foldl (pickO btG (pkB L)) (some [])).getD []
theorem pick_some {α:Type} {better:α→α→Bool} {p:α→Bool} {xs:List α}:∀ {b:α},∃ y,xs.foldl (pickO better p) (some b)=some y:=by
 induction xs with
 | nil=>exact fun {b}=>⟨b,rfl⟩
 | cons x xs ih =>
  intro b
  simp only [List.foldl_cons,pickO]
  split
  ·exact ih
  ·exact ih
theorem pckR_succ {L:Lom} {j:Nat}:pckR L (j+1)=if (pkB L (memS L.ss.length (j+1)) && btG (memS L.ss.length (j+1)) (pckR L j))=true then memS L.ss.length (j+1) else pckR L j:=by
 unfold pckR
 rw [setsR,List.foldl_append]
 obtain ⟨y,e⟩:=pick_some (better:=btG) (p:=pkB L) (xs:=setsR L.ss.length j) (b:=[])
 rw [e]
 simp only [List.foldl_cons,List.foldl_nil,pickO,Option.all_some,Option.getD_some]
 split<;>rfl
theorem pckR_len {L:Lom}:∀ j,(pckR L j).length≤L.ss.length
 | 0=>by simp [pckR,setsR]
 | j+1=>by
  rw [pckR_succ]
  split
  ·exact memS_len
  ·exact pckR_len j
theorem pckR_mem {L:Lom}:∀ j,∀ x ∈ pckR L j,0≤x∧x<(L.ss.length:Int)
 | 0=>by simp [pckR,setsR]
 | j+1=>by
  rw [pckR_succ]
  split
  ·exact fun x hx=>(memS_mem.1 hx).1
  ·exact pckR_mem j
noncomputable def apM (L:Lom):List (List Bool):=(List.range L.ss.length).map fun a=>(List.range L.ss.length).map (apR L a)
theorem stE75 {base:Nat} {l:List Oper} {s:St} {Q:AExit→St→Prop}:WP prog raw base (.region 24 l.toArray false) s Q=WPS prog raw base (.region 24 l.toArray false) s Q:=WP_stop
attribute [local go_sem ↓ 3000] stE75
set_option maxHeartbeats 8000000 in
theorem run_packedR {base:Nat} {h:Heap} {L:Lom} {pv sv:AVal} (hb:base≤h.length) (hP:Parts h pv L.ps) (hS:Rows encS h sv L.ss) (hc:chkM L=0) (hr:∀ p ∈ L.ps,p.rib.length≤1000) :
  Ret prog raw base (.fn 28 [] []) [lomV L.R L.T pv sv] h (fun v H=>Ext h H∧Own encI 3 0 H v (pckR L (2 ^ L.ss.length-1))):=by
 have ho:=hP.one
 have ho2:=hS.one
 obtain ⟨k1,k2,k3,k4,k5,k6⟩:=chkM_ok hc
 obtain ⟨n,en⟩:∃ n,n=L.ss.length:=⟨_,rfl⟩
 rw [← en] at k4
 obtain ⟨G,eG⟩:∃ G,G=h++[rlB L.R L.T pv sv]:=⟨_,rfl⟩
 have xG:Ext h G:=by rw [eG];exact .app .refl
 have hG:=xG.len
 have g1:G[h.length]?=some (rlB L.R L.T pv sv):=by rw [eG];exact get_eq rfl
 unfold rlB at eG g1
 have ls:∀ {H:Heap},Ext h H→lenOpA prog H 30 sv=some (.int .i64 (n:Int)):=fun x=>by rw [en];exact (hS.ext x).len Fc.el30
 have sig:∀ {H:Heap} (x:Ext h H) (i:Nat),i<n→indexAddrA prog 30 sv (.int .i64 (i:Int))=some (elAdr sv encS.z i 0)∧fieldAddrA prog 126 (elAdr sv encS.z i 0) 2=some (elAdr sv encS.z i 3)∧loadP prog H 4 (elAdr sv encS.z i 3)=some (.bool (L.ss.getD i sgt0).bad):=fun x i hi=>by
  rw [en] at hi
  have ad:=(hS.ext x).addr (P:=prog) (i:=(i:Int)) Fc.el30 Fc.ar30 (by omega) (by omega)
  rw [Int.toNat_natCast] at ad
  exact ⟨ad,elAdr_field (P:=prog) (i:=i) (o:=0) (off:=3) (q:=false) (n:=1) (hS.ext x) (by omega) (by kernel_rfl) (by decide),(hS.ext x).cell (P:=prog) Fc.ty4 (getD_some hi) (o:=3) (a:=.bool (L.ss.getD i sgt0).bad) rfl⟩
 refine ret_raw func28 rfl (by kernel_rfl) ?_
 have hsp:=@Nat.succ_ne_zero;repeat' (first|simp (disch:=first|exact dq|fail) only [go_sem,↓reduceIte,hsp,← eG]|refine WP_drw ?_|refine cnd_intro (fun hsp=>?_) fun hsp=>?_)
 refine WP_count [(3,61)] 0 n (Nat.zero_le _) (fun _ a fr h'=>fr 4=.int .i64 (a:Int)∧Ext G h'∧∃ v,fr 3=v∧AllO G.length h' v ((List.range a).map fun a=>(List.range n).map (apR L a))) ?_ ?_ ?_
 ·exact ⟨by (simp (disch:=first|exact dq|fail) only [go_sem,↓reduceIte,Int.natCast_zero];first|done|rfl),.refl,.slice none 0 0,by simp (disch:=first|exact dq|fail) only [go_sem,↓reduceIte],[],Own.nil,rfl,by simp⟩
 ·rintro a fr K ha0 ha hA ⟨p4,xK,v,p3,hI⟩
  have p1:=hA 1 rfl
  have p2:=hA 2 rfl
  try simp (disch:=first|exact dq|fail) only [go_sem,↓reduceIte] at p1 p2
  have hlt:((a:Int)<(n:Int))=True:=eq_true (by omega)
  have xh:=xG.trans xK
  have hKl:=xK.len
  have hhK:=xh.len
  have g1K:=xK.get g1
  have lsK:=ls xh
  have hv1:=hI.one
  have mk:=make_full (P:=prog) (h:=K) Fc.el113 (show 0<n by omega) (by omega)
  have erow:(⟨.cells (repCells [.bool false] n) 4 true false,0⟩:ABlk)=rowE encO 4 (List.replicate n false) 0:=by
   unfold rowE
   rw [← rep_flat (E:=encO) (x:=false)]
   rfl
  rw [erow] at mk
  have hsp:=@Nat.succ_ne_zero;repeat' (first|simp (disch:=first|exact dq|fail) only [go_sem,↓reduceIte,hsp,p1,p2,p4,p3,hlt,g1K,lsK,mk]|refine WP_drw ?_|refine cnd_intro (fun hsp=>?_) fun hsp=>?_)
  refine WP_count [(6,57)] 0 n (Nat.zero_le _) (fun _ b fr h'=>fr 6=.int .i64 (b:Int)∧∃ R,h'=K++[rowE encO 4 R 0]∧R.length=n∧∀ k,k<b→R.getD k false=apR L a k) ?_ ?_ ?_
  ·exact ⟨by (simp (disch:=first|exact dq|fail) only [go_sem,↓reduceIte,Int.natCast_zero];first|done|rfl),_,rfl,by simp,fun k hk=>by omega⟩
  ·rintro b fr2 K2 hb0 hb2 hA2 ⟨d6,R,rfl,hRl,hR⟩
   have d1:=hA2 1 rfl
   have d2:=hA2 2 rfl
   have d3:=hA2 3 rfl
   have d4:=hA2 4 rfl
   have d5:=hA2 5 rfl
   try simp (disch:=first|exact dq|fail) only [go_sem,↓reduceIte,p1,p2,p3,p4] at d1 d2 d3 d4 d5
   have hlt2:((b:Int)<(n:Int))=True:=eq_true (by omega)
   have x2:Ext h (K++[rowE encO 4 R 0]):=xh.trans (.app .refl)
   have g1K2:(K++[rowE encO 4 R 0])[h.length]?=_:=get_app g1K
   have gR:(K++[rowE encO 4 R 0])[K.length]?=some (rowE encO 4 R 0):=get_eq rfl
   have lsK2:=ls x2
   obtain ⟨a1,a2,a3⟩:=sig x2 a ha
   obtain ⟨b1,b2,b3⟩:=sig x2 b hb2
   have ea:=fun base=>run_apartR (base:=base) (a:=a) (b:=b) (hP.ext x2) (hS.ext x2) hc hr (by omega) (by omega)
   have stR:∀ {v:Bool} {K':ABlk→Heap},stQ base K.length (some (rowE encO 4 R 0)) 0 b [.bool v] K'=some (K' (rowE encO 4 (R.set b v) 0)):=fun {v K'}=>stQ_encO (by omega) (by omega)
   have nxt:∀ v,v=apR L a b→(R.set b v).length=n∧∀ k,k<b+1→(R.set b v).getD k false=apR L a k:=fun v hv=>by
    refine ⟨by rw [List.length_set];exact hRl,fun k hk=>?_⟩
    rw [getD_set' (by omega)]
    split
    ·rename_i e;subst e;exact hv
    ·exact hR k (by omega)
   have hap:apR L a b=(((L.ss.getD a sgt0).bad && (L.ss.getD b sgt0).bad) && (decide (a=b) || aprB L a b)):=rfl
   generalize (L.ss.getD a sgt0).bad=ba at a3 hap
   generalize (L.ss.getD b sgt0).bad=bb at b3 hap
   rcases Bool.eq_false_or_eq_true ba with q1|q1
   ·rw [q1] at a3 hap
    rcases Bool.eq_false_or_eq_true bb with q2|q2
    ·rw [q2] at b3 hap
     by_cases c3:a=b
     ·have t3:((a:Int)=(b:Int))=True:=eq_true (by omega)
      rw [decide_eq_true c3] at hap
      have hsp:=@Nat.succ_ne_zero;repeat' (first|simp (disch:=first|exact dq|fail) only [go_sem,↓reduceIte,hsp,d1,d2,d3,d4,d5,d6,hlt2,g1K2,a1,a2,a3,b1,b2,b3,t3,stR]|refine WP_drw ?_|refine cnd_intro (fun hsp=>?_) fun hsp=>?_)
      exact ⟨agq,by omega,_,rfl,nxt _ hap.symm⟩
     ·have t3:((a:Int)=(b:Int))=False:=eq_false (by omega)
      rw [decide_eq_false c3] at hap
      have hsp:=@Nat.succ_ne_zero;repeat' (first|simp (disch:=first|exact dq|fail) only [go_sem,↓reduceIte,hsp,d1,d2,d3,d4,d5,d6,hlt2,g1K2,a1,a2,a3,b1,b2,b3,t3,ea,stR]|refine WP_drw ?_|refine cnd_intro (fun hsp=>?_) fun hsp=>?_)
      exact ⟨agq,by omega,_,rfl,nxt _ hap.symm⟩
    ·rw [q2] at b3 hap
     have hsp:=@Nat.succ_ne_zero;repeat' (first|simp (disch:=first|exact dq|fail) only [go_sem,↓reduceIte,hsp,d1,d2,d3,d4,d5,d6,hlt2,g1K2,a1,a2,a3,b1,b2,b3,stR]|refine WP_drw ?_|refine cnd_intro (fun hsp=>?_) fun hsp=>?_)
     exact ⟨agq,by omega,_,rfl,nxt _ hap.symm⟩
   ·rw [q1] at a3 hap
    have hsp:=@Nat.succ_ne_zero;repeat' (first|simp (disch:=first|exact dq|fail) only [go_sem,↓reduceIte,hsp,d1,d2,d3,d4,d5,d6,hlt2,g1K2,a1,a2,a3,stR]|refine WP_drw ?_|refine cnd_intro (fun hsp=>?_) fun hsp=>?_)
    exact ⟨agq,by omega,_,rfl,nxt _ hap.symm⟩
  ·rintro fr2 K2 hA2 ⟨d6,R,rfl,hRl,hR⟩
   have d1:=hA2 1 rfl
   have d2:=hA2 2 rfl
   have d3:=hA2 3 rfl
   have d4:=hA2 4 rfl
   have d5:=hA2 5 rfl
   try simp (disch:=first|exact dq|fail) only [go_sem,↓reduceIte,p1,p2,p3,p4] at d1 d2 d3 d4 d5
   have hlt2:((n:Int)<(n:Int))=False:=eq_false (by omega)
   have eR:R=(List.range n).map (apR L a):=by
    refine List.ext_getElem (by simp [hRl]) fun k h1 h2=>?_
    have:=hR k (by omega)
    rw [getD_at h1] at this
    simpa using this
   obtain ⟨z,A',bz,xA,w',h',eW,oN,hl5,hE,hw1',_⟩:=(hI.ext (.app (t:=[rowE encO 4 R 0]) .refl)).snoc (x:=.slice (some ⟨K.length,0,0⟩) n n) (t:=R) (base:=base) (.inl (.inr ⟨K.length,0,by rw [hRl],get_eq rfl,Nat.zero_le _,by omega⟩)) (by omega) (by simp;omega) (by rw [List.length_map,List.length_range];omega)
   have hsp:=@Nat.succ_ne_zero;repeat' (first|simp (disch:=first|exact dq|fail) only [go_sem,↓reduceIte,hsp,d1,d2,d3,d4,d5,d6,hlt2,bz,eW]|refine WP_drw ?_|refine cnd_intro (fun hsp=>?_) fun hsp=>?_)
   refine ⟨agq,by omega,hE _ (Nat.le_refl _) (xK.trans (.app .refl)),w',rfl,?_⟩
   rw [List.map_append,List.map_singleton,← eR]
   exact oN
 ·rintro fr1 H1 hA ⟨p4,xH1,v,p3,hI⟩
  have p1:=hA 1 rfl
  have p2:=hA 2 rfl
  try simp (disch:=first|exact dq|fail) only [go_sem,↓reduceIte] at p1 p2
  have hlt:((n:Int)<(n:Int))=False:=eq_false (by omega)
  have g11:=xH1.get g1
  have ls1:=ls (xG.trans xH1)
  have hv1:=hI.one
  have hpw:0<2 ^ n:=Nat.pow_pos (by decide)
  have hpw2:2 ^ n≤2 ^ 10:=Nat.pow_le_pow_right (by decide) (by omega)
  rw [← en]
  have hsp:=@Nat.succ_ne_zero;repeat' (first|simp (disch:=first|exact dq|fail) only [go_sem,↓reduceIte,hsp,p1,p2,p4,p3,hlt,g11,ls1]|refine WP_drw ?_|refine cnd_intro (fun hsp=>?_) fun hsp=>?_)
  refine WP_count [(7,118)] 0 (2 ^ n-1) (Nat.zero_le _) (fun _ j fr h'=>fr 8=.int .i64 ((j+1:Nat):Int)∧Ext H1 h'∧∃ v,fr 7=v∧Own encI 3 0 h' v (pckR L j)) ?_ ?_ ?_
  ·exact ⟨by (simp (disch:=first|exact dq|fail) only [go_sem,↓reduceIte,Int.natCast_zero];first|done|rfl),.refl,.slice none 0 0,by simp (disch:=first|exact dq|fail) only [go_sem,↓reduceIte],Own.nil⟩
  ·rintro j fr2 K hj0 hj hB ⟨q8,xK,bv,q7,hO⟩
   have q1:=hB 1 rfl
   have q2:=hB 2 rfl
   have q3:=hB 3 rfl
   try simp (disch:=first|exact dq|fail) only [go_sem,↓reduceIte,p1,p2,p3] at q1 q2 q3
   have hlt2:(((j+1:Nat):Int)<((2 ^ n:Nat):Int))=True:=eq_true (by omega)
   have xhK:=(xG.trans xH1).trans xK
   have hhK:=xhK.len
   have g1K:=(xH1.trans xK).get g1
   have hss:=fun base=>run_sets (base:=base) ho (hS.ext xhK) (by omega)
   rw [← en] at hss
   obtain ⟨xv,H2,e2,y2,oX⟩:=run_members (base:=base) (n:=n) (s:=j+1) (h:=K) (by omega) (by omega) (by omega)
   have hx1:=oX.one
   have hb1:=hO.one
   obtain ⟨x,ex⟩:∃ x,x=memS n (j+1):=⟨_,rfl⟩
   rw [← ex] at oX
   have hxl:x.length≤n:=by rw [ex];exact memS_len
   have hxm:∀ k ∈ x,0≤k∧k<(n:Int):=fun k hk=>by rw [ex] at hk;exact (memS_mem.1 hk).1
   have hbl:=pckR_len (L:=L) j
   have hbm:=pckR_mem (L:=L) j
   have iX:Ints H2 xv x:=own_ints oX ⟨by omega,fun k hk=>by have:=hxm k hk;omega⟩
   have iB:Ints H2 bv (pckR L j):=own_ints (hO.ext y2) ⟨by omega,fun k hk=>by have:=hbm k hk;omega⟩
   have es:pckR L (j+1)=if (pkB L x && btG x (pckR L j))=true then x else pckR L j:=by rw [pckR_succ,← en,ex]
   rw [es]
   generalize pckR L j=bo at hO hbl hbm iB es ⊢
   have hI2:=hI.ext (xK.trans y2)
   have fst:x.length=bo.length→∀ base,callL prog raw base (.fn 71 [] []) [xv,bv] H2=some (.bool (lexB x bo),H2):=fun hl base=>run_first (base:=base) iX iB (by omega) (by omega)
   have cell:∀ i k:Nat,i<x.length→k<x.length→∃ a w,indexAddrA prog 156 v (.int .i64 (x.getD i 0))=some a∧loadP prog H2 113 a=some w∧One w∧indexAddrA prog 113 w (.int .i64 (x.getD k 0))=some (elAdr w encO.z (x.getD k 0).toNat 0)∧loadP prog H2 4 (elAdr w encO.z (x.getD k 0).toNat 0)=some (.bool (apR L (x.getD i 0).toNat (x.getD k 0).toNat)):=fun i k hi hk=>by
    have m1:=hxm _ (getD_in (d:=0) hi)
    have m2:=hxm _ (getD_in (d:=0) hk)
    obtain ⟨p,ep⟩:=Int.eq_ofNat_of_zero_le m1.1
    obtain ⟨q,eq⟩:=Int.eq_ofNat_of_zero_le m2.1
    have hp:p<n:=by rw [ep] at m1;omega
    have hq:q<n:=by rw [eq] at m2;omega
    rw [ep,eq]
    have hrow:((List.range n).map fun a=>(List.range n).map (apR L a))[p]?=some ((List.range n).map (apR L p)):=by
     rw [List.getElem?_map,List.getElem?_range hp];rfl
    obtain ⟨a,w,adw,ld,oW⟩:=hI2.at (by rw [List.length_map,List.length_range];omega) hrow
    have hR:=oW.rows (by rw [List.length_map,List.length_range];omega)
    have hel:((List.range n).map (apR L p))[q]?=some (apR L p q):=by rw [List.getElem?_map,List.getElem?_range hq];rfl
    have ad2:=hR.addr (P:=prog) (i:=(q:Int)) Fc.el113 Fc.ar113 (by omega) (by rw [List.length_map,List.length_range];omega)
    refine ⟨a,w,adw,ld _ .refl,oW.one,ad2,?_⟩
    simp only [Int.toNat_natCast]
    exact hR.cell (P:=prog) Fc.ty4 hel (o:=0) (a:=.bool (apR L p q)) rfl
   have hsp:=@Nat.succ_ne_zero;repeat' (first|simp (disch:=first|exact dq|fail) only [go_sem,↓reduceIte,hsp,q1,q2,q3,q8,q7,hlt2,g1K,hss,e2]|refine WP_drw ?_|refine cnd_intro (fun hsp=>?_) fun hsp=>?_)
   refine WP_count [(10,97)] 0 x.length (Nat.zero_le _) (fun _ i fr h'=>fr 11=.int .i64 (i:Int)∧h'=H2∧fr 10=.bool ((x.take i).all fun a=>x.all fun b=>apR L a.toNat b.toNat)) ?_ ?_ ?_
   ·exact ⟨by (simp (disch:=first|exact dq|fail) only [go_sem,↓reduceIte,Int.natCast_zero];first|done|rfl),rfl,by simp (disch:=first|exact dq|fail) only [go_sem,↓reduceIte];simp⟩
   ·rintro i fr3 H3 hi0 hi hC ⟨c11,eH3,c10⟩
    subst eH3
    have c1:=hC 1 rfl
    have c2:=hC 2 rfl
    have c3:=hC 3 rfl
    have c7:=hC 7 rfl
    have c8:=hC 8 rfl
    have c9:=hC 9 rfl
    try simp (disch:=first|exact dq|fail) only [go_sem,↓reduceIte,q1,q2,q3,q7,q8] at c1 c2 c3 c7 c8 c9
    have hlt3:((i:Int)<(x.length:Int))=True:=eq_true (by omega)
    have hxi:x[i]?=some (x.getD i 0):=getD_some hi
    rw [all_take_succ _ hxi]
    generalize ((x.take i).all fun a=>x.all fun b=>apR L a.toNat b.toNat)=z0 at c10 ⊢
    have hsp:=@Nat.succ_ne_zero;repeat' (first|simp (disch:=first|exact dq|fail) only [go_sem,↓reduceIte,hsp,c1,c2,c3,c7,c8,c9,c11,c10,hlt3]|refine WP_drw ?_|refine cnd_intro (fun hsp=>?_) fun hsp=>?_)
    refine WP_count [(10,10),(12,97)] 0 x.length (Nat.zero_le _) (fun _ k fr h'=>fr 12=.int .i64 (k:Int)∧h'=H3∧fr 10=.bool (z0 && (x.take k).all fun b=>apR L (x.getD i 0).toNat b.toNat)) ?_ ?_ ?_
    ·exact ⟨by (simp (disch:=first|exact dq|fail) only [go_sem,↓reduceIte,Int.natCast_zero];first|done|rfl),rfl,by simp (disch:=first|exact dq|fail) only [go_sem,↓reduceIte,c10];simp⟩
    ·rintro k fr4 H4 hk0 hk hD ⟨d12,eH4,d10⟩
     subst eH4
     have d1:=hD 1 rfl
     have d2:=hD 2 rfl
     have d3:=hD 3 rfl
     have d7:=hD 7 rfl
     have d8:=hD 8 rfl
     have d9:=hD 9 rfl
     have d11:=hD 11 rfl
     try simp (disch:=first|exact dq|fail) only [go_sem,↓reduceIte,c1,c2,c3,c7,c8,c9,c11] at d1 d2 d3 d7 d8 d9 d11
     have hlt4:((k:Int)<(x.length:Int))=True:=eq_true (by omega)
     have hxk:x[k]?=some (x.getD k 0):=getD_some hk
     obtain ⟨a,w,m1,m2,m3,m4,m5⟩:=cell i k hi hk
     rw [all_take_succ _ hxk,← Bool.and_assoc]
     generalize (z0 && (x.take k).all fun b=>apR L (x.getD i 0).toNat b.toNat)=z1 at d10 ⊢
     rcases Bool.eq_false_or_eq_true z1 with q1|q1
     ·rw [q1] at d10 ⊢
      have hsp:=@Nat.succ_ne_zero;repeat' (first|simp (disch:=first|exact dq|fail) only [go_sem,↓reduceIte,hsp,d1,d2,d3,d7,d8,d9,d11,d12,d10,hlt4,m1,m2,m4,m5]|refine WP_drw ?_|refine cnd_intro (fun hsp=>?_) fun hsp=>?_)
      exact ⟨agq,by omega,by rw [Bool.true_and]⟩
     ·rw [q1] at d10 ⊢
      have hsp:=@Nat.succ_ne_zero;repeat' (first|simp (disch:=first|exact dq|fail) only [go_sem,↓reduceIte,hsp,d1,d2,d3,d7,d8,d9,d11,d12,d10,hlt4]|refine WP_drw ?_|refine cnd_intro (fun hsp=>?_) fun hsp=>?_)
      exact ⟨agq,by omega,by rw [Bool.false_and]⟩
    ·rintro fr4 H4 hD ⟨d12,eH4,d10⟩
     subst eH4
     have d1:=hD 1 rfl
     have d2:=hD 2 rfl
     have d3:=hD 3 rfl
     have d7:=hD 7 rfl
     have d8:=hD 8 rfl
     have d9:=hD 9 rfl
     have d11:=hD 11 rfl
     try simp (disch:=first|exact dq|fail) only [go_sem,↓reduceIte,c1,c2,c3,c7,c8,c9,c11] at d1 d2 d3 d7 d8 d9 d11
     have hlt4:((x.length:Int)<(x.length:Int))=False:=eq_false (by omega)
     rw [List.take_length] at d10
     have hsp:=@Nat.succ_ne_zero;repeat' (first|simp (disch:=first|exact dq|fail) only [go_sem,↓reduceIte,hsp,d1,d2,d3,d7,d8,d9,d11,d12,d10,hlt4]|refine WP_drw ?_|refine cnd_intro (fun hsp=>?_) fun hsp=>?_)
     exact ⟨agq,by omega⟩
   ·rintro fr3 H3 hC ⟨c11,eH3,c10⟩
    subst eH3
    have c1:=hC 1 rfl
    have c2:=hC 2 rfl
    have c3:=hC 3 rfl
    have c7:=hC 7 rfl
    have c8:=hC 8 rfl
    have c9:=hC 9 rfl
    try simp (disch:=first|exact dq|fail) only [go_sem,↓reduceIte,q1,q2,q3,q7,q8] at c1 c2 c3 c7 c8 c9
    have hlt3:((x.length:Int)<(x.length:Int))=False:=eq_false (by omega)
    rw [List.take_length] at c10
    have ep:(x.all fun a=>x.all fun b=>apR L a.toNat b.toNat)=pkB L x:=rfl
    rw [ep] at c10
    have hsp:=@Nat.succ_ne_zero;repeat' (first|simp (disch:=first|exact dq|fail) only [go_sem,↓reduceIte,hsp,c1,c2,c3,c7,c8,c9,c11,c10,hlt3]|refine WP_drw ?_|refine cnd_intro (fun hsp=>?_) fun hsp=>?_)
    refine WPS_restF fun Z eZ=>?_
    skip
    have kZ1:=congrFun eZ 1
    have kZ2:=congrFun eZ 2
    have kZ3:=congrFun eZ 3
    have kZ7:=congrFun eZ 7
    have kZ8:=congrFun eZ 8
    have kZ9:=congrFun eZ 9
    have kZ10:=congrFun eZ 10
    try simp (disch:=first|exact dq|fail) only [go_sem,↓reduceIte,c1,c2,c3,c7,c8,c9,c10] at kZ1 kZ2 kZ3 kZ7 kZ8 kZ9 kZ10
    have aZ:Agree [(7,118)] Z fr2:=by rw [eZ];exact agq
    clear eZ
    refine WP_meet (fun fr h'=>Agree [(98,117)] fr Z∧h'=H3∧fr 117=.bool (pkB L x && btG x bo)) ?_ ?_
    ·rw [WP_region]
     rcases Bool.eq_false_or_eq_true (pkB L x) with q1|q1
     ·rw [q1,Bool.true_and]
      by_cases c1:x.length > bo.length
      ·have t1:((x.length:Int) > (bo.length:Int))=True:=eq_true (by omega)
       have r:btG x bo=true:=by unfold btG;rw [decide_eq_true (by omega)];rfl
       rw [r]
       have hsp:=@Nat.succ_ne_zero;repeat' (first|simp (disch:=first|exact dq|fail) only [go_sem,↓reduceIte,hsp,kZ1,kZ2,kZ3,kZ7,kZ8,kZ9,kZ10,q1,t1]|refine WP_drw ?_|refine cnd_intro (fun hsp=>?_) fun hsp=>?_)
       all_goals exact agq
      ·have t1:((x.length:Int) > (bo.length:Int))=False:=eq_false (by omega)
       by_cases c2:x.length=bo.length
       ·have t2:((x.length:Int)=(bo.length:Int))=True:=eq_true (by omega)
        have r:btG x bo=lexB x bo:=by unfold btG;rw [decide_eq_false (by omega),decide_eq_true c2];rfl
        have e3:=fst c2
        rw [r]
        have hsp:=@Nat.succ_ne_zero;repeat' (first|simp (disch:=first|exact dq|fail) only [go_sem,↓reduceIte,hsp,kZ1,kZ2,kZ3,kZ7,kZ8,kZ9,kZ10,q1,t1,t2,e3]|refine WP_drw ?_|refine cnd_intro (fun hsp=>?_) fun hsp=>?_)
        all_goals exact agq
       ·have t2:((x.length:Int)=(bo.length:Int))=False:=eq_false (by omega)
        have r:btG x bo=false:=by unfold btG;rw [decide_eq_false (by omega),decide_eq_false c2];rfl
        rw [r]
        have hsp:=@Nat.succ_ne_zero;repeat' (first|simp (disch:=first|exact dq|fail) only [go_sem,↓reduceIte,hsp,kZ1,kZ2,kZ3,kZ7,kZ8,kZ9,kZ10,q1,t1,t2]|refine WP_drw ?_|refine cnd_intro (fun hsp=>?_) fun hsp=>?_)
        all_goals exact agq
     ·rw [q1,Bool.false_and]
      have hsp:=@Nat.succ_ne_zero;repeat' (first|simp (disch:=first|exact dq|fail) only [go_sem,↓reduceIte,hsp,kZ1,kZ2,kZ3,kZ7,kZ8,kZ9,kZ10,q1]|refine WP_drw ?_|refine cnd_intro (fun hsp=>?_) fun hsp=>?_)
      all_goals exact agq
    ·rintro fr4 H4 ⟨hD,eH4,r117⟩
     subst eH4
     have z1:=hD 1 rfl
     have z2:=hD 2 rfl
     have z3:=hD 3 rfl
     have z7:=hD 7 rfl
     have z8:=hD 8 rfl
     have z9:=hD 9 rfl
     try simp (disch:=first|exact dq|fail) only [go_sem,↓reduceIte,kZ1,kZ2,kZ3,kZ7,kZ8,kZ9] at z1 z2 z3 z7 z8 z9
     generalize (pkB L x && btG x bo)=b1 at r117 ⊢
     rcases Bool.eq_false_or_eq_true b1 with q1|q1
     ·rw [q1] at r117 ⊢
      have hsp:=@Nat.succ_ne_zero;repeat' (first|simp (disch:=first|exact dq|fail) only [go_sem,↓reduceIte,hsp,z1,z2,z3,z7,z8,z9,r117]|refine WP_drw ?_|refine cnd_intro (fun hsp=>?_) fun hsp=>?_)
      exact ⟨agq,by omega,xK.trans y2,_,rfl,oX.low (Nat.zero_le _)⟩
     ·rw [q1] at r117 ⊢
      have hsp:=@Nat.succ_ne_zero;repeat' (first|simp (disch:=first|exact dq|fail) only [go_sem,↓reduceIte,hsp,z1,z2,z3,z7,z8,z9,r117]|refine WP_drw ?_|refine cnd_intro (fun hsp=>?_) fun hsp=>?_)
      exact ⟨agq,by omega,xK.trans y2,_,rfl,hO.ext y2⟩
  ·rintro fr2 K hB ⟨q8,xK,bv,q7,hO⟩
   have q1:=hB 1 rfl
   have q2:=hB 2 rfl
   have q3:=hB 3 rfl
   try simp (disch:=first|exact dq|fail) only [go_sem,↓reduceIte,p1,p2,p3] at q1 q2 q3
   have hlt2:(((2 ^ n-1+1:Nat):Int)<((2 ^ n:Nat):Int))=False:=eq_false (by omega)
   have xhK:=(xG.trans xH1).trans xK
   have g1K:=(xH1.trans xK).get g1
   have hss:=fun base=>run_sets (base:=base) ho (hS.ext xhK) (by omega)
   rw [← en] at hss
   have hb1:=hO.one
   have hsp:=@Nat.succ_ne_zero;repeat' (first|simp (disch:=first|exact dq|fail) only [go_sem,↓reduceIte,hsp,q1,q2,q3,q8,q7,hlt2,g1K,hss]|refine WP_drw ?_|refine cnd_intro (fun hsp=>?_) fun hsp=>?_)
   exact ⟨xhK,hO⟩
end Go.AM
