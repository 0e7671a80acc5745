/-
  Contracts: which parts must break, what clashes, as the reference says it.
-/
import Derived.Test.YtlhmeoeamcgcmaaGreatE69
set_option linter.unusedSimpArgs false
set_option linter.unusedVariables false
namespace Go.AM
open Go.Proofs.Tryz
attribute [-go_sem] put_ne put_same
attribute [local go_sem ↓] put_if
def mstR (ts:List (List Brk)) (n:Nat):List Int:=(upto n).filter fun p=>ts.all fun t=>t.any fun b=>decide (b.1=p)
set_option maxHeartbeats 4000000 in
theorem run_mustR {base:Nat} {h:Heap} {L:Lom} {pv sv av:AVal} {ts:List (List Brk)} (hb:base≤h.length) (hP:Parts h pv L.ps) (hs1:One sv) (hpl:L.ps.length≤6) (hA0:AllAt 0 h av ts) (hl:ts.length≤3000) (ht:∀ t ∈ ts,t.length≤6) :
  Ret prog raw base (.fn 19 [] []) [lomV L.R L.T pv sv,av] h (fun v H=>Ext h H∧Own encI 3 0 H v (mstR ts L.ps.length)):=by
 have ho:=hP.one
 have ho3:=hA0.one
 obtain ⟨G,eG⟩:∃ G,G=h++[rlB L.R L.T pv sv]:=⟨_,rfl⟩
 have xG:Ext h G:=by rw [eG];exact .app .refl
 have hG:=xG.len
 have g1:G[h.length]?=some (rlB L.R L.T pv sv):=by rw [eG];exact get_eq rfl
 unfold rlB at eG g1
 refine ret_raw func19 rfl (by kernel_rfl) ?_
 have hsp:=@Nat.succ_ne_zero;repeat' (first|simp (disch:=first|exact dq|fail) only [go_sem,↓reduceIte,hsp,← eG]|refine WP_drw ?_|refine cnd_intro (fun hsp=>?_) fun hsp=>?_)
 refine WP_count [(5,54)] 0 L.ps.length (Nat.zero_le _) (fun _ i fr h'=>fr 6=.int .i64 (i:Int)∧Ext G h'∧∃ v,fr 5=v∧Own encI 3 G.length h' v (mstR ts i)) ?_ ?_ ?_
 ·exact ⟨by (simp (disch:=first|exact dq|fail) only [go_sem,↓reduceIte,Int.natCast_zero];first|done|rfl),.refl,.slice none 0 0,by simp (disch:=first|exact dq|fail) only [go_sem,↓reduceIte],Own.nil⟩
 ·rintro i fr K hi0 hi hA ⟨r6,xK,v,r5,hO⟩
  have p1:=hA 1 rfl
  have p2:=hA 2 rfl
  have p4:=hA 4 rfl
  try simp (disch:=first|exact dq|fail) only [go_sem,↓reduceIte] at p1 p2 p4
  have hlt:((i:Int)<(L.ps.length:Int))=True:=eq_true (by omega)
  have xh:=xG.trans xK
  have hKl:=xK.len
  have hhK:=xh.len
  have g1K:=xK.get g1
  have lp:=(hP.ext xh).lenR
  have hnK:=(hA0.ext xh).len (show ts.length<2 ^ 60 by omega)
  have hv1:=hO.one
  have hsp:=@Nat.succ_ne_zero;repeat' (first|simp (disch:=first|exact dq|fail) only [go_sem,↓reduceIte,hsp,r6,r5,p1,p2,p4,hlt,g1K,lp]|refine WP_drw ?_|refine cnd_intro (fun hsp=>?_) fun hsp=>?_)
  refine WP_count [(7,49)] 0 ts.length (Nat.zero_le _) (fun _ k fr h'=>fr 8=.int .i64 (k:Int)∧h'=K∧fr 7=.bool ((ts.take k).all fun t=>t.any fun b=>decide (b.1=(i:Int)))) ?_ ?_ ?_
  ·exact ⟨by (simp (disch:=first|exact dq|fail) only [go_sem,↓reduceIte,Int.natCast_zero];first|done|rfl),rfl,by simp (disch:=first|exact dq|fail) only [go_sem,↓reduceIte];simp⟩
  ·rintro k fr2 K' hk0 hk hA2 ⟨r8,eK,r7⟩
   subst eK
   have d1:=hA2 1 rfl
   have d2:=hA2 2 rfl
   have d4:=hA2 4 rfl
   have d5:=hA2 5 rfl
   have d6:=hA2 6 rfl
   try simp (disch:=first|exact dq|fail) only [go_sem,↓reduceIte,p1,p2,p4] at d1 d2 d4 d5 d6
   have d6:=hA2 6 rfl
   simp (disch:=first|exact dq|fail) only [go_sem,↓reduceIte,r6] at d6
   have hlt2:((k:Int)<(ts.length:Int))=True:=eq_true (by omega)
   obtain ⟨y,ey⟩:∃ y,y=ts[k]:=⟨_,rfl⟩
   have hy:ts[k]?=some y:=by rw [ey];exact List.getElem?_eq_getElem hk
   obtain ⟨a,u,adw,ld,oU⟩:=(hA0.ext xh).at (show ts.length<2 ^ 60 by omega) hy
   have hu:=oU.one
   have ld0:=ld _ .refl
   have hyl:=ht y (List.mem_of_getElem? hy)
   have hT:=oU.rows (show y.length<2 ^ 60 by omega)
   have hly:=hT.len (P:=prog) Fc.el66
   have hsp:=@Nat.succ_ne_zero;repeat' (first|simp (disch:=first|exact dq|fail) only [go_sem,↓reduceIte,hsp,r8,r7,d6,d1,d2,d4,d5,d6,p1,p2,p4,hlt2,hnK]|refine WP_drw ?_|refine cnd_intro (fun hsp=>?_) fun hsp=>?_)
   refine WP_count [(9,45)] 0 y.length (Nat.zero_le _) (fun H0 j fr h'=>fr 10=.int .i64 (j:Int)∧h'=H0∧fr 9=.bool ((y.take j).any fun b=>decide (b.1=(i:Int)))) ?_ ?_ ?_
   ·exact ⟨by (simp (disch:=first|exact dq|fail) only [go_sem,↓reduceIte,Int.natCast_zero];first|done|rfl),rfl,by simp (disch:=first|exact dq|fail) only [go_sem,↓reduceIte];simp⟩
   ·rintro j fr3 K' hj0 hj hA3 ⟨r10,eK,r9⟩
    subst eK
    have c1:=hA3 1 rfl
    have c2:=hA3 2 rfl
    have c4:=hA3 4 rfl
    have c5:=hA3 5 rfl
    have c6:=hA3 6 rfl
    have c7:=hA3 7 rfl
    have c8:=hA3 8 rfl
    try simp (disch:=first|exact dq|fail) only [go_sem,↓reduceIte,d1,d2,d4,d5,d6] at c1 c2 c4 c5 c6 c7 c8
    have c6:=hA3 6 rfl
    simp (disch:=first|exact dq|fail) only [go_sem,↓reduceIte,d6] at c6
    have c8:=hA3 8 rfl
    simp (disch:=first|exact dq|fail) only [go_sem,↓reduceIte,r8] at c8
    have c1:=hA3 1 rfl
    simp (disch:=first|exact dq|fail) only [go_sem,↓reduceIte,d1,d2,d4,d5,d6,p1,p2,p4] at c1
    have hlt3:((j:Int)<(y.length:Int))=True:=eq_true (by omega)
    obtain ⟨b,eb⟩:∃ b,b=y.getD j brk0:=⟨_,rfl⟩
    have hx:y[j]?=some b:=by rw [eb];exact getD_some hj
    have ad:=brkAddr hT hj
    have f1:fieldAddrA prog 128 (elAdr u encB.z j 0) 0=some (elAdr u encB.z j 0):=elAdr_field (P:=prog) (i:=j) (o:=0) (off:=0) (q:=false) (n:=1) hT (by omega) (by kernel_rfl) (by decide)
    have l1:loadP prog K' 3 (elAdr u encB.z j 0)=some (.int .i64 b.1):=hT.cell (P:=prog) Fc.ty3 hx (o:=0) (a:=.int .i64 b.1) rfl
    rw [any_take_succ _ hx]
    generalize ((y.take j).any fun b=>decide (b.1=(i:Int)))=z1 at r9 ⊢
    rcases Bool.eq_false_or_eq_true z1 with q1|q1
    ·rw [q1] at r9 ⊢
     have hsp:=@Nat.succ_ne_zero;repeat' (first|simp (disch:=first|exact dq|fail) only [go_sem,↓reduceIte,hsp,r10,r9,c6,c8,c1,c1,c2,c4,c5,c6,c7,c8,hlt3,adw,ld0,hly]|refine WP_drw ?_|refine cnd_intro (fun hsp=>?_) fun hsp=>?_)
     exact ⟨agq,by omega,rfl⟩
    ·rw [q1] at r9 ⊢
     have hsp:=@Nat.succ_ne_zero;repeat' (first|simp (disch:=first|exact dq|fail) only [go_sem,↓reduceIte,hsp,r10,r9,c6,c8,c1,c1,c2,c4,c5,c6,c7,c8,hlt3,adw,ld0,hly,ad,f1,l1]|refine WP_drw ?_|refine cnd_intro (fun hsp=>?_) fun hsp=>?_)
     exact ⟨agq,by omega,by rw [Bool.false_or]⟩
   ·rintro fr3 K' hA3 ⟨r10,eK,r9⟩
    subst eK
    have c1:=hA3 1 rfl
    have c2:=hA3 2 rfl
    have c4:=hA3 4 rfl
    have c5:=hA3 5 rfl
    have c6:=hA3 6 rfl
    have c7:=hA3 7 rfl
    have c8:=hA3 8 rfl
    try simp (disch:=first|exact dq|fail) only [go_sem,↓reduceIte,d1,d2,d4,d5,d6] at c1 c2 c4 c5 c6 c7 c8
    have c6:=hA3 6 rfl
    simp (disch:=first|exact dq|fail) only [go_sem,↓reduceIte,d6] at c6
    have c7:=hA3 7 rfl
    simp (disch:=first|exact dq|fail) only [go_sem,↓reduceIte,r7] at c7
    have c8:=hA3 8 rfl
    simp (disch:=first|exact dq|fail) only [go_sem,↓reduceIte,r8] at c8
    have c1:=hA3 1 rfl
    simp (disch:=first|exact dq|fail) only [go_sem,↓reduceIte,d1,d2,d4,d5,d6,p1,p2,p4] at c1
    have hlt3:((y.length:Int)<(y.length:Int))=False:=eq_false (by omega)
    rw [List.take_length] at r9
    rw [all_take_succ _ hy]
    generalize ((ts.take k).all fun t=>t.any fun b=>decide (b.1=(i:Int)))=z2 at c7 ⊢
    rcases Bool.eq_false_or_eq_true z2 with q2|q2
    ·rw [q2] at c7 ⊢
     have hsp:=@Nat.succ_ne_zero;repeat' (first|simp (disch:=first|exact dq|fail) only [go_sem,↓reduceIte,hsp,r10,r9,c6,c7,c8,c1,c1,c2,c4,c5,c6,c7,c8,hlt3,adw,ld0,hly]|refine WP_drw ?_|refine cnd_intro (fun hsp=>?_) fun hsp=>?_)
     exact ⟨agq,by omega,by rw [Bool.true_and]⟩
    ·rw [q2] at c7 ⊢
     have hsp:=@Nat.succ_ne_zero;repeat' (first|simp (disch:=first|exact dq|fail) only [go_sem,↓reduceIte,hsp,r10,r9,c6,c7,c8,c1,c1,c2,c4,c5,c6,c7,c8,hlt3,adw,ld0,hly]|refine WP_drw ?_|refine cnd_intro (fun hsp=>?_) fun hsp=>?_)
     exact ⟨agq,by omega,by rw [Bool.false_and]⟩
  ·rintro fr2 K' hA2 ⟨r8,eK,r7⟩
   subst eK
   have d1:=hA2 1 rfl
   have d2:=hA2 2 rfl
   have d4:=hA2 4 rfl
   have d5:=hA2 5 rfl
   have d6:=hA2 6 rfl
   try simp (disch:=first|exact dq|fail) only [go_sem,↓reduceIte,p1,p2,p4] at d1 d2 d4 d5 d6
   have d6:=hA2 6 rfl
   simp (disch:=first|exact dq|fail) only [go_sem,↓reduceIte,r6] at d6
   have d5:=hA2 5 rfl
   simp (disch:=first|exact dq|fail) only [go_sem,↓reduceIte,r5] at d5
   have hlt2:((ts.length:Int)<(ts.length:Int))=False:=eq_false (by omega)
   rw [List.take_length] at r7
   have ec:mstR ts (i+1)=mstR ts i++(if (ts.all fun t=>t.any fun b=>decide (b.1=(i:Int)))=true then [(i:Int)] else []):=filt_succ'
   have l1:(mstR ts i).length≤i:=filt_len
   have a1:=app_sn1 (P:=prog) (y:=(i:Int)) (base:=base) (t:=36) hO rfl rfl Fc.el36 encI_sc (by omega) (by omega)
   have hO':=Own.sn (m:=[(i:Int)]) hO hKl (by simp)
   have xv:Ext G (snH encI 3 K' v (mstR ts i) [(i:Int)]):=hO.sn_ext (Nat.le_refl _) xK
   have o1:One (snV K' v 1):=snV_one
   rw [ec]
   generalize (ts.all fun t=>t.any fun b=>decide (b.1=(i:Int)))=z1 at r7 ⊢
   rcases Bool.eq_false_or_eq_true z1 with q1|q1
   ·rw [q1] at r7 ⊢
    have hsp:=@Nat.succ_ne_zero;repeat' (first|simp (disch:=first|exact dq|fail) only [go_sem,↓reduceIte,hsp,r8,r7,d6,d5,d1,d2,d4,d5,d6,p1,p2,p4,hlt2,hnK,a1]|refine WP_drw ?_|refine cnd_intro (fun hsp=>?_) fun hsp=>?_)
    exact ⟨agq,by omega,xv,_,rfl,hO'⟩
   ·rw [q1] at r7 ⊢
    have hsp:=@Nat.succ_ne_zero;repeat' (first|simp (disch:=first|exact dq|fail) only [go_sem,↓reduceIte,hsp,r8,r7,d6,d5,d1,d2,d4,d5,d6,p1,p2,p4,hlt2,hnK]|refine WP_drw ?_|refine cnd_intro (fun hsp=>?_) fun hsp=>?_)
    exact ⟨agq,by omega,xK,_,rfl,hO⟩
 ·rintro fr K hA ⟨r6,xK,v,r5,hO⟩
  have p1:=hA 1 rfl
  have p2:=hA 2 rfl
  have p4:=hA 4 rfl
  try simp (disch:=first|exact dq|fail) only [go_sem,↓reduceIte] at p1 p2 p4
  have hlt:((L.ps.length:Int)<(L.ps.length:Int))=False:=eq_false (by omega)
  have g1K:=xK.get g1
  have lp:=(hP.ext (xG.trans xK)).lenR
  have hv1:=hO.one
  have hsp:=@Nat.succ_ne_zero;repeat' (first|simp (disch:=first|exact dq|fail) only [go_sem,↓reduceIte,hsp,r6,r5,p1,p2,p4,hlt,g1K,lp]|refine WP_drw ?_|refine cnd_intro (fun hsp=>?_) fun hsp=>?_)
  exact ⟨xG.trans xK,hO.low (Nat.zero_le _)⟩
theorem snocZI {A:Heap} {w v:AVal} {vs:List AVal} {b base:Nat} (hO:Own encZ 36 b A w vs) (h1:One v) (hb:base≤b) (hbh:b≤A.length) (hl:vs.length≤10000000) :
  ∃ x A',(∀ {lit:Bool},lit=true→bsA prog lit A 104 1 [(0,v)]=some (x,A'))∧Ext A A'∧∃ w' h',appendA prog base A' 104 w x=some (w',h')∧Own encZ 36 b h' w' (vs++[v])∧A.length≤h'.length∧(∀ G,G.length≤b→Ext G A→Ext G h')∧One w'∧KeepO encZ 36 A h':=by
 have hn:=norm_one h1
 rcases h1 with ⟨q1,q2,q3⟩
 have hr:rowOf prog 104 1 [(0,v)]=some (36,1,[v]):=by
  simp [rowOf,Fc.el104,fillA,repCells,q1,q2,q3,splice]
 by_cases hbare:AVal.bare v=true
 ·obtain ⟨w',h',a1,a2,a3,a4,a5,a6⟩:=hO.append1X (P:=prog) (y:=v) (a:=v) (base:=base) (t:=104) rfl (by simp only [encZ,hn]) Fc.el104 encZ_sc hb hbh (by omega)
  refine ⟨.vals [v],A,fun {lit} hlit=>?_,.refl,w',h',a1,a2,a3,a4,a5,a6⟩
  subst hlit
  simp only [bsA,hr]
  rw [if_neg (by decide),if_pos ⟨trivial,trivial,by simp [hbare]⟩]
 ·obtain ⟨w',h',a1,a2,a3,a4,a5,a6⟩:=(hO.app (T:=[rowE encZ 36 [v] 0])).appendRX (P:=prog) (x:=.slice (some ⟨A.length,0,0⟩) 1 1) (m:=[v]) (base:=base) (t:=104) (Rows.own (get_eq rfl) rfl (by simp)) Fc.el104 encZ_sc hb (by simp;omega) (by simp) (by simp;omega)
  refine ⟨.slice (some ⟨A.length,0,0⟩) 1 1,A++[rowE encZ 36 [v] 0],fun {lit} hlit=>?_,.app .refl,w',h',a1,a2,by simp at a3;omega,fun G hG e=>a4 G hG (e.trans (.app .refl)),a5,fun i y g hy=>a6 i y (get_app g) hy⟩
  simp only [bsA,hr]
  rw [if_neg (by decide),if_neg (fun q=>hbare (by simpa using q.2.2))]
  simp [rowE,flat,encZ,hn]
def AllI (b:Nat) (H:Heap) (v:AVal) (ts:List (List Int)):Prop:=∃ vs:List AVal,Own encZ 36 b H v vs∧vs.length=ts.length∧∀ (i:Nat) x t,vs[i]?=some x→ts[i]?=some t→OwnE encI 3 0 H x t
section
variable {b:Nat} {H H':Heap} {v:AVal} {ts:List (List Int)}
theorem AllI.ext (x:AllI b H v ts) (e:Ext H H'):AllI b H' v ts:=by
 obtain ⟨vs,h1,h2,h3⟩:=x
 exact ⟨vs,h1.ext e,h2,fun i x t a c=>(h3 i x t a c).ext e⟩
theorem AllI.one (x:AllI b H v ts):One v:=by obtain ⟨vs,h1,_⟩:=x;exact h1.one
theorem AllI.rows (x:AllI b H v ts) (hl:ts.length<2 ^ 60):∃ vs,Rows encZ H v vs∧vs.length=ts.length:=by
 obtain ⟨vs,h1,h2,_⟩:=x
 exact ⟨vs,h1.rows (by omega),h2⟩
theorem AllI.len (x:AllI b H v ts) (hl:ts.length<2 ^ 60):lenOpA prog H 104 v=some (.int .i64 (ts.length:Int)):=by
 obtain ⟨vs,h1,h2,_⟩:=x
 have:=(h1.rows (by omega)).len (P:=prog) Fc.el104
 rwa [h2] at this
theorem AllI.at (x:AllI b H v ts) (hl:ts.length<2 ^ 60) {i:Nat} {t:List Int} (ht:ts[i]?=some t) :
  ∃ a w,indexAddrA prog 104 v (.int .i64 (i:Int))=some a∧(∀ K,Ext H K→loadP prog K 36 a=some w)∧OwnE encI 3 0 H w t:=by
 obtain ⟨vs,h1,h2,h3⟩:=x
 have hi:i<ts.length:=(List.getElem?_eq_some_iff.1 ht).1
 have hx:vs[i]?=some vs[i]:=List.getElem?_eq_getElem (by omega)
 have hR:=h1.rows (show vs.length<2 ^ 60 by omega)
 have ad:=hR.addr (P:=prog) (i:=(i:Int)) Fc.el104 Fc.ar104 (by omega) (by omega)
 rw [Int.toNat_natCast] at ad
 have hw:=h3 i _ _ hx ht
 refine ⟨_,_,ad,fun K e=>?_,hw⟩
 exact (hR.ext e).cell (P:=prog) Fc.ty36 hx (o:=0) (a:=vs[i]) (by simp only [encZ,norm_one hw.one];rfl)
theorem AllI.snoc {A:Heap} {w x:AVal} {t:List Int} {base:Nat} (y:AllI b A w ts) (hx:OwnE encI 3 0 A x t) (hb:base≤b) (hbh:b≤A.length) (hl:ts.length≤10000000) :
  ∃ z A',(∀ {lit:Bool},lit=true→bsA prog lit A 104 1 [(0,x)]=some (z,A'))∧Ext A A'∧∃ w' h',appendA prog base A' 104 w z=some (w',h')∧AllI b h' w' (ts++[t])∧A.length≤h'.length∧(∀ G,G.length≤b→Ext G A→Ext G h')∧One w'∧KeepO encZ 36 A h':=by
 obtain ⟨vs,h1,h2,h3⟩:=y
 obtain ⟨z,A',a1,a2,w',h',a3,a4,a5,a6,a7,a8⟩:=snocZI (base:=base) h1 hx.one hb hbh (by omega)
 refine ⟨z,A',a1,a2,w',h',a3,⟨_,a4,by simp [h2],fun i p q g1 g2=>?_⟩,a5,a6,a7,a8⟩
 by_cases hi:i<vs.length
 ·rw [List.getElem?_append_left hi] at g1
  rw [List.getElem?_append_left (by omega)] at g2
  exact a8.ownE (h3 i p q g1 g2) (by decide)
 ·rw [List.getElem?_append_right (by omega)] at g1
  rw [List.getElem?_append_right (by omega)] at g2
  have e0:i-vs.length=0:=by
   have:=(List.getElem?_eq_some_iff.1 g1).1
   simp at this;omega
  rw [e0] at g1
  rw [show i-ts.length=0 by omega] at g2
  cases g1;cases g2
  exact a8.ownE hx (by decide)
end
end Go.AM
