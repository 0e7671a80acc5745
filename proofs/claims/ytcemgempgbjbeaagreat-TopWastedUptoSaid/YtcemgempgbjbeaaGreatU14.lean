/-
  Contracts: the most that is earned from each position on (made).
-/
import Derived.Test.YtcemgempgbjbeaaGreatU13
import Derived.Test.YtcemgempgbjbeaaGreatU11
import Derived.Test.YtcemgempgbjbeaaGreatU12
set_option linter.unusedSimpArgs false
set_option linter.unusedVariables false
namespace Go.AM
open Go.Proofs.Tryz
attribute [-go_sem] put_ne put_same
attribute [local go_sem ↓] put_if
abbrev valBk (l:List Int):ABlk:=⟨.cells (ints l) 152 false false,0⟩
def zer61:List Int:=lst (fun _=>0) 61
def mdS (R:Rib) (x:Nat):List Int:=lst (fun y=>if x≤y then valD R y else 0) 61
def mdP (R:Rib) (x:Nat) (a:Int):List Int:=lst (fun y=>if y=x then a else if x<y then valD R y else 0) 61
theorem mdS_end {R:Rib}:mdS R R.L.toNat=zer61:=lst_congr fun i _=>by
 split
 ·exact valD_end (by assumption)
 ·rfl
theorem mdP_set {R:Rib} {x:Nat} {a b:Int} (hx:x<61):(mdP R x a).set x b=mdP R x b:=by
 unfold mdP
 rw [lst_set hx]
 refine lst_congr fun i _=>?_
 split<;>rfl
theorem mdS_set {R:Rib} {x:Nat} {b:Int} (hx:x<61):(mdS R (x+1)).set x b=mdP R x b:=by
 unfold mdP mdS
 rw [lst_set hx]
 refine lst_congr fun i _=>?_
 split
 ·rfl
 ·split
  ·rw [if_pos (by omega)]
  ·rw [if_neg (by omega)]
theorem mdP_all {R:Rib} {x:Nat}:mdP R x (valD R x)=mdS R x:=lst_congr fun i _=>by
 split
 ·rename_i e;rw [if_pos (by omega),e]
 ·split
  ·rw [if_pos (by omega)]
  ·rw [if_neg (by omega)]
theorem mdS_len {R:Rib} {x:Nat}:(mdS R x).length=61:=lst_len
theorem mdP_len {R:Rib} {x:Nat} {a:Int}:(mdP R x a).length=61:=lst_len
theorem mdS_at {R:Rib} {x y:Nat} (hy:y<61) (h:x≤y):(mdS R x).getD y 0=valD R y:=by
 unfold mdS;rw [lst_get hy,if_pos h]
theorem mdP_at {R:Rib} {x y:Nat} {a:Int} (hy:y<61) (h:x<y):(mdP R x a).getD y 0=valD R y:=by
 unfold mdP;rw [lst_get hy,if_neg (by omega),if_pos h]
theorem mdP_same {R:Rib} {x:Nat} {a:Int} (hx:x<61):(mdP R x a).getD x 0=a:=by
 unfold mdP;rw [lst_get hx,if_pos rfl]
def accM (R:Rib) (x j:Nat):Int:=((cutL R x).take j).foldl (mx1 R) (valD R (x+1))
theorem accM_succ {R:Rib} {x j:Nat} {c:Ct × Int × Int} (h:(cutL R x)[j]?=some c):accM R x (j+1)=max (accM R x j) (c.2.2+valD R c.2.1.toNat):=by
 unfold accM
 rw [List.take_add_one,h,List.foldl_append];rfl
theorem accM_all {R:Rib} {x:Nat} (hR:RibOk R) (hx:x<R.L.toNat):accM R x (cutL R x).length=valD R x:=by
 unfold accM
 rw [List.take_length,valD_step hR hx]
theorem ldA61 {l:List Int} {e:TypeId} {row ro:Bool} (hl:l.length=61):ldB (some (true,61)) (some ⟨.cells (ints l) e row ro,0⟩) 0 0=some (.agg (ints l)):=by
 rw [ldB_agg (by rw [ints_length];omega),List.drop_zero,List.take_of_length_le (by rw [ints_length];omega)]
theorem stA61 {base id:Nat} {l m:List Int} {e:TypeId} {row:Bool} {K:ABlk→Heap} (hl:l.length=m.length):stQ base id (some ⟨.cells (ints m) e row false,0⟩) 0 0 (ints l) K=some (K ⟨.cells (ints l) e row false,0⟩):=by
 simp only [stQ]
 rw [if_pos ⟨trivial,by rw [ints_length,ints_length];omega,ints_scalar _,.inr (ints_bare _)⟩,splice_all (by rw [ints_length,ints_length];omega)]
theorem stV61 {base id:Nat} {H:Heap} {l m:List Int} (hg:H[id]?=some (valBk m)) (hl:l.length=61) (hm:m.length=61):stP prog base H 152 (.ptr (some ⟨id,0,0⟩)) (.agg (ints l))=some (undefA,H.set id (valBk l)):=by
 rw [stP_ptr Fc.ty152 (by simp [AVal.cells,ints_length,hl]),hg]
 simp only [AVal.cells]
 rw [stA61 (by omega)];rfl
set_option maxRecDepth 100000 in
set_option maxHeartbeats 4000000 in
theorem run_made {base id:Nat} {h:Heap} {R:Rib} (hD:DskAt h id R) (hR:RibOk R) :
  callL prog raw base (.fn 50 [] []) [.ptr (some ⟨id,0,0⟩)] h=some (.agg (ints (mdS R 0)),h):=by
 have hDe:=fun H (e:Ext h H)=>hD.ext e
 obtain ⟨fv,wv,gd,hF,hW⟩:=hD
 have hL:=hR.L
 have lid:=lt_of_get gd
 have dL:=fun z=>dsk_ld0 (L:=R.L) (fv:=fv) (wv:=wv) (F:=R.F) (z:=z)
 obtain ⟨G,eG⟩:∃ G,G=h++[valBk zer61]++[valBk zer61]++[nB (R.L-1)]:=⟨_,rfl⟩
 have xG:Ext h G:=by rw [eG];exact .app (.app (.app .refl))
 have g0:G[h.length]?=some (valBk zer61):=by rw [eG];exact get_app (get_app (get_eq rfl))
 have g1:G[h.length+1]?=some (valBk (mdS R R.L.toNat)):=by rw [eG,mdS_end];exact get_app (get_eq (by simp))
 have g2:G[h.length+2]?=some (nB (R.L-1)):=by rw [eG];exact get_eq (by simp)
 have lG:G.length=h.length+3:=by rw [eG];simp
 have gdG:=xG.get gd
 unfold valBk zer61 nB at eG
 refine callL_run func50 rfl rfl ?_
 have hsp:=@Nat.succ_ne_zero;repeat' (first|simp (disch:=first|exact dqb|fail) only [go_sem,↓reduceIte,hsp,gd,dL,← eG]|refine WP_drw ?_|refine cnd_intro (fun hsp=>?_) fun hsp=>?_)
 refine WP_count [(4,25),(28,42)] 0 R.L.toNat (Nat.zero_le _) (fun _ i fr H=>∃ a,fr 4=.ptr (some ⟨a,0,0⟩)∧H[a]?=some (nB (R.L-1-(i:Int)))∧h.length+2≤a∧Ext h H∧H[h.length]?=some (valBk zer61)∧H[h.length+1]?=some (valBk (mdS R (R.L.toNat-i)))) ?_ ?_ ?_
 ·refine ⟨h.length+2,by simp (disch:=first|exact dqb|fail) only [go_sem,↓reduceIte],by rw [g2];simp,Nat.le_refl _,xG,g0,by rw [Nat.sub_zero];exact g1⟩
 ·rintro i fr H hi0 hi hA ⟨a,r4,ga,la,xH,gz,gv⟩
  have p0:=hA 0 rfl
  have p2:=hA 2 rfl
  have p3:=hA 3 rfl
  try simp (disch:=first|exact dqb|fail) only [go_sem,↓reduceIte] at p0 p2 p3
  obtain ⟨x,ex⟩:∃ x,x=R.L.toNat-(i+1):=⟨_,rfl⟩
  have hx:x<R.L.toNat:=by omega
  rw [show R.L-1-(i:Int)=(x:Int) by omega] at ga
  rw [show R.L.toNat-i=x+1 by omega] at gv
  have hge:((x:Int) ≥ 0)=True:=eq_true (by omega)
  have la2:=lt_of_get ga
  have lv:=lt_of_get gv
  have m1:=mdS_at (R:=R) (x:=x+1) (y:=x+1) (by omega) (Nat.le_refl _)
  have ml:=mdS_len (R:=R) (x:=x+1)
  have vb:=valD_bd hR (x:=x+1)
  have ld1:∀ z,ldB (some (false,z)) (some (valBk (mdS R (x+1)))) 0 (x+1)=some (.int .i64 (valD R (x+1))):=fun z=>by rw [ldB_ints (by omega),m1]
  have st1:∀ (K:ABlk→Heap),stQ h.length (h.length+1) (some (valBk (mdS R (x+1)))) 0 x [.int .i64 (valD R (x+1))] K=some (K (valBk (mdP R x (valD R (x+1))))):=fun K=>by rw [stQ_ints (by omega),mdS_set (by omega)]
  have ex1:((x:Int)+1).toNat=x+1:=by omega
  obtain ⟨H1,eH1⟩:∃ H1,H1=H.set (h.length+1) (valBk (mdP R x (valD R (x+1)))):=⟨_,rfl⟩
  have l1:H1.length=H.length:=by rw [eH1,List.length_set]
  have xH1:Ext h H1:=by rw [eH1];exact xH.set (by omega)
  have gz1:H1[h.length]?=some (valBk zer61):=by rw [eH1,List.getElem?_set_ne (by omega)];exact gz
  have ga1:H1[a]?=some (nB (x:Int)):=by rw [eH1,List.getElem?_set_ne (by omega)];exact ga
  have gv1:H1[h.length+1]?=some (valBk (mdP R x (accM R x 0))):=by rw [eH1,List.getElem?_set_self lv];rfl
  obtain ⟨w3,H3,e3,rfl,eH3⟩:=run_cuts (base:=h.length) (id:=id) (x:=x) (h:=H1)
  have x3:Ext H1 H3:=by rw [eH3];exact .app (.app .refl)
  have l3:H3.length=H1.length+2:=by rw [eH3];simp
  have gdb:H3[H1.length]?=some (pB id):=by rw [eH3];exact get_app (get_eq rfl)
  have gfb:H3[H1.length+1]?=some (nB (x:Int)):=by rw [eH3];exact get_eq (by simp)
  unfold nB at ga
  unfold valBk at ld1 st1 gv eH1
  have hsp:=@Nat.succ_ne_zero;repeat' (first|simp (disch:=first|exact dqb|fail) only [go_sem,↓reduceIte,hsp,r4,p0,p2,p3,ga,hge,gv,ld1,st1,ex1,← eH1,ga1,e3]|refine WP_drw ?_|refine cnd_intro (fun hsp=>?_) fun hsp=>?_)
  refine WP_rangeX (by simp (disch:=first|exact dqb|fail) only [go_sem,↓reduceIte]) (N:=(cutL R x).length) (X:=XC R x) (pr:=prT) (fun j K=>H3.length+1≤K.length∧Ext h K∧K[h.length]?=some (valBk zer61)∧K[a]?=some (nB (x:Int))∧K[H1.length]?=some (pB id)∧K[H1.length+1]?=some (nB (x:Int))∧K[h.length+1]?=some (valBk (mdP R x (accM R x j)))) (fun _ _=>False)
   (cuts_yields (id:=id) (db:=H1.length) (fb:=H1.length+1) (by omega) hR hx (fun j K q=>⟨hDe K q.2.1,q.2.2.2.2.1,q.2.2.2.2.2.1⟩)) ?_ ?_ ?_ ?_ ?_ ?_ ?_ ?_
  ·rintro j b K ⟨c,_,rfl⟩;rfl
  ·rintro j K T ⟨i1,i2,i3,i4,i5,i6,i7⟩
   exact ⟨by simp;omega,i2.trans (.app .refl),get_app i3,get_app i4,get_app i5,get_app i6,get_app i7⟩
  ·rintro j K B ⟨i1,i2,i3,i4,i5,i6,i7⟩
   exact ⟨by simpa using i1,i2.set (by omega),by rw [List.getElem?_set_ne (by omega)];exact i3,by rw [List.getElem?_set_ne (by omega)];exact i4,by rw [List.getElem?_set_ne (by omega)];exact i5,by rw [List.getElem?_set_ne (by omega)];exact i6,by rw [List.getElem?_set_ne (by omega)];exact i7⟩
  ·intro e K B q;exact q
  ·exact ⟨by simp,(xH1.trans x3).trans (.app .refl),get_app (x3.get gz1),get_app (x3.get ga1),get_app gdb,get_app gfb,get_app (x3.get gv1)⟩
  ·rintro j b K B1 B2 hj ⟨c,hc,rfl⟩ ⟨i1,i2,i3,i4,i5,i6,i7⟩ hKl hB
   have hcb:=(cutL_b hR hx (List.mem_of_getElem? hc)).1
   obtain ⟨⟨cw,cf,cj⟩,ce,cp⟩:=c
   dsimp only at hcb
   obtain ⟨e,rfl⟩:=Int.eq_ofNat_of_zero_le (show 0≤ce by omega)
   have hac:=accM_succ hc
   simp only [Int.toNat_natCast] at hac
   obtain ⟨ac,eac⟩:∃ ac,ac=accM R x j:=⟨_,rfl⟩
   rw [← eac] at i7 hac
   obtain ⟨K1,eK1⟩:∃ K1,K1=K.set H3.length B2:=⟨_,rfl⟩
   have lK1:K1.length=K.length:=by rw [eK1,List.length_set]
   obtain ⟨K2,eK2⟩:∃ K2,K2=K1++[wayB (e:Int) cp]:=⟨_,rfl⟩
   have lK2:K2.length=K.length+1:=by rw [eK2];simp [lK1]
   have y2:Ext K1 K2:=by rw [eK2];exact .app .refl
   have k4:K2[a]?=some (nB (x:Int)):=y2.get (by rw [eK1,List.getElem?_set_ne (by omega)];exact i4)
   have k7:K2[h.length+1]?=some (valBk (mdP R x ac)):=y2.get (by rw [eK1,List.getElem?_set_ne (by omega)];exact i7)
   have kw:K2[K.length]?=some (wayB (e:Int) cp):=by rw [eK2,← lK1];exact get_eq rfl
   have vb:=valD_bd hR (x:=e)
   have ld2:∀ z,ldB (some (false,z)) (some (valBk (mdP R x ac))) 0 x=some (.int .i64 ac):=fun z=>by rw [ldB_ints (by rw [mdP_len];omega),mdP_same (by omega)]
   have ld3:∀ z,ldB (some (false,z)) (some (valBk (mdP R x ac))) 0 e=some (.int .i64 (valD R e)):=fun z=>by rw [ldB_ints (by rw [mdP_len];omega),mdP_at (by omega) (by omega)]
   obtain ⟨K3,eK3⟩:∃ K3,K3=K2++[rowB [cp+valD R e] 0]:=⟨_,rfl⟩
   have y3:Ext K2 K3:=by rw [eK3];exact .app .refl
   have k37:=y3.get k7
   have hm:=fun base=>run_most1 (base:=base) (m:=K2.length) (A:=K2) (n:=ac) (x:=cp+valD R e) rfl (by omega)
   rw [← eK3] at hm
   have st2:∀ (F:ABlk→Heap),stQ h.length (h.length+1) (some (valBk (mdP R x ac))) 0 x [.int .i64 (max ac (cp+valD R e))] F=some (F (valBk (mdP R x (max ac (cp+valD R e))))):=fun F=>by rw [stQ_ints (by rw [mdP_len];omega),mdP_set (by omega)]
   unfold valBk at ld2 ld3 st2 k7 k37
   unfold nB at k4
   unfold wayB at eK2 kw
   have hsp:=@Nat.succ_ne_zero;repeat' (first|simp (disch:=first|exact dqb|fail) only [go_sem,↓reduceIte,hsp,r4,p0,p2,p3,hB,← eK1,← eK2,k4,k7,kw,ld2,ld3,← eK3,hm,k37,st2]|refine WP_drw ?_|refine cnd_intro (fun hsp=>?_) fun hsp=>?_)
   have lK3:K3.length=K.length+2:=by rw [eK3];simp [lK2]
   have z3:Ext K1 K3:=y2.trans y3
   have nk:∀ {i:Nat} {z:ABlk},i ≠ H3.length→K[i]?=some z→K3[i]?=some z:=fun hi hz=>z3.get (by rw [eK1,List.getElem?_set_ne (fun q=>hi q.symm)];exact hz)
   refine ⟨z3.get (by rw [eK1,List.getElem?_set_self (by omega)]),fun i z hi hp hz=>?_,by omega,.inl ⟨by omega,Ext.set (Ext.trans (by rw [eK1];exact i2.set (by omega)) z3) (by omega),nk (by omega) i3,nk (by omega) i4,nk (by omega) i5,nk (by omega) i6,?_⟩⟩
   ·rw [List.getElem?_set_ne (by omega)]
    exact nk (by omega) hz
   ·rw [List.getElem?_set_self (by omega),hac]
  ·rintro K ⟨i1,i2,i3,i4,i5,i6,i7⟩
   rw [accM_all hR hx,mdP_all] at i7
   unfold nB at i4
   have hsp:=@Nat.succ_ne_zero;repeat' (first|simp (disch:=first|exact dqb|fail) only [go_sem,↓reduceIte,hsp,r4,p0,p2,p3,i4]|refine WP_drw ?_|refine cnd_intro (fun hsp=>?_) fun hsp=>?_)
   refine ⟨agq,_,rfl,?_,by omega,.app i2,i3,?_⟩
   ·rw [get_eq rfl,show R.L-1-((i+1:Nat):Int)=(x:Int)-1 by omega]
   ·rw [← ex];exact i7
  ·intro e K _ q;exact q.elim
 ·rintro fr H hA ⟨a,r4,ga,la,xH,gz,gv⟩
  have p0:=hA 0 rfl
  have p2:=hA 2 rfl
  have p3:=hA 3 rfl
  try simp (disch:=first|exact dqb|fail) only [go_sem,↓reduceIte] at p0 p2 p3
  have hge:((R.L-1-((R.L.toNat:Nat):Int)) ≥ 0)=False:=eq_false (by omega)
  rw [Nat.sub_self] at gv
  unfold nB at ga
  have ld:=ldA61 (l:=mdS R 0) (e:=152) (row:=false) (ro:=false) mdS_len
  have st:=stV61 (base:=h.length) (l:=mdS R 0) gz mdS_len rfl
  have gzs:(H.set h.length (valBk (mdS R 0)))[h.length]?=some (valBk (mdS R 0)):=by rw [List.getElem?_set_self (lt_of_get gz)]
  unfold valBk at st gzs gv
  have hsp:=@Nat.succ_ne_zero;repeat' (first|simp (disch:=first|exact dqb|fail) only [go_sem,↓reduceIte,hsp,r4,p0,p2,p3,ga,hge,gv,ld,st,gzs]|refine WP_drw ?_|refine cnd_intro (fun hsp=>?_) fun hsp=>?_)
  exact fin_pl rfl (ints_plain _) (xH.set (Nat.le_refl _))
end Go.AM
namespace Go.AM
open Go.Proofs.Tryz
attribute [-go_sem] put_ne put_same
attribute [local go_sem ↓] put_if
theorem ev_str {fr:AFrame} {s:ByteArray}:ev fr (.const (.string s))=.str s:=rfl
def lenT (n:Nat):Nat:=[0,1,2,2,3,3,3,3,4,4,4,4,4].getD n 0
def Srt (m:List Int) (i j:Nat):Prop:=∀ a b,a<b→b≤i→b ≠ j→m.getD a 0≤m.getD b 0
def swp (m:List Int) (j:Nat):List Int:=(m.set (j+1) (m.getD j 0)).set j (m.getD (j+1) 0)
theorem Srt.done {m:List Int} {i j:Nat} (h:Srt m i j) (hj:j=0 ∨ m.getD (j-1) 0≤m.getD j 0) (hi:j≤i):∀ a b,a<b→b≤i→m.getD a 0≤m.getD b 0:=fun a b hab hb=>by
 by_cases e:b=j
 ·subst e
  rcases hj with hj|hj
  ·omega
  ·by_cases e2:a=b-1
   ·rw [e2];exact hj
   ·exact Int.le_trans (h a (b-1) (by omega) (by omega) (by omega)) hj
 ·exact h a b hab hb e
abbrev srB (m:List Int) (e:TypeId) (ver:Nat):ABlk:=⟨.cells (ints m) e true false,ver⟩
def srtL (l:List Int):List Int:=l.mergeSort fun a b=>decide (a≤b)
end Go.AM
namespace Go.AM
theorem splice_mid:∀ (vs pre c d:List AVal),c.length=vs.length→splice (pre++c++d) pre.length vs=pre++vs++d
 | [],pre,c,d,h=>by rw [List.eq_nil_of_length_eq_zero h];rfl
 | v :: vs,pre,[],d,h=>by simp at h
 | v :: vs,pre,x :: c,d,h=>by
  have:=splice_mid vs (pre++[v]) c d (by simpa using h)
  rw [splice]
  rw [show (pre++x :: c++d).set pre.length v=pre++[v]++c++d by simp]
  rw [show pre.length+1=(pre++[v]).length by simp,this]
  simp
theorem stQ_rowE {α:Type} {E:Enc α} {e:TypeId} {l:List α} {i base id ver:Nat} {x:α} {K:ABlk→Heap} (hi:i<l.length) (hs:(E.cells x).all AVal.scalar=true) (hb:base≤id) :
  stQ base id (some (rowE E e l ver)) ver (i * E.z) (E.cells x) K=some (K (rowE E e (l.set i x) ver)):=by
 have hle:i * E.z+E.z≤l.length * E.z:=by rw [← Nat.succ_mul];exact Nat.mul_le_mul_right _ hi
 have e1:flat E l=(flat E l).take (i * E.z)++((flat E l).drop (i * E.z)).take E.z++(flat E l).drop ((i+1) * E.z):=by
  rw [List.append_assoc,Nat.succ_mul,← List.drop_drop,List.take_append_drop,List.take_append_drop]
 have hl:((flat E l).take (i * E.z)).length=i * E.z:=by rw [List.length_take,flat_len];omega
 have key:splice (flat E l) (i * E.z) (E.cells x)=flat E (l.set i x):=by
  rw [flat_set E hi]
  have:=splice_mid (E.cells x) ((flat E l).take (i * E.z)) (((flat E l).drop (i * E.z)).take E.z) ((flat E l).drop ((i+1) * E.z)) (by rw [E.len,List.length_take,List.length_drop,flat_len];omega)
  rwa [hl,← e1] at this
 unfold rowE
 rw [stQ_own hb (by rw [E.len,flat_len];exact hle) hs,key]
theorem Own.setRow {α β:Type} {E:Enc α} {E2:Enc β} {e e2:TypeId} {b a ver:Nat} {h:Heap} {v:AVal} {l:List α} {m:List β} {k:ABlk} (x:Own E2 e2 b h v m) (hg:h[a]?=some (rowE E e l ver)) (hne:e2 ≠ e):Own E2 e2 b (h.set a k) v m:=by
 rcases x with q|⟨id,u,e1,g,e3,e4⟩
 ·exact .inl q
 ·have hia:id ≠ a:=by
   rintro rfl
   rw [g] at hg
   simp only [rowE,Option.some.injEq,ABlk.mk.injEq,ABody.cells.injEq] at hg
   exact hne hg.1.2.1
  exact .inr ⟨id,u,e1,by rw [List.getElem?_set_ne (fun q=>hia q.symm)];exact g,e3,e4⟩
theorem stQ_cellE {α:Type} {E:Enc α} {e:TypeId} {l:List α} {i o base id ver:Nat} {x y:α} {a:AVal} {K:ABlk→Heap} (hx:l[i]?=some x) (ho:o<E.z) (hc:(E.cells x).set o a=E.cells y) (ha:a.scalar=true) (hb:base≤id) :
  stQ base id (some (rowE E e l ver)) ver (i * E.z+o) [a] K=some (K (rowE E e (l.set i y) ver)):=by
 have hi:=(List.getElem?_eq_some_iff.1 hx).1
 have hle:i * E.z+E.z≤l.length * E.z:=by rw [← Nat.succ_mul];exact Nat.mul_le_mul_right _ hi
 have e1:flat E l=(flat E l).take (i * E.z)++E.cells x++(flat E l).drop ((i+1) * E.z):=by
  rw [← flat_get E hx,List.append_assoc,Nat.succ_mul,← List.drop_drop,List.take_append_drop,List.take_append_drop]
 have hl:((flat E l).take (i * E.z)).length=i * E.z:=by rw [List.length_take,flat_len];omega
 have key:(flat E l).set (i * E.z+o) a=flat E (l.set i y):=by
  rw [flat_set E hi,← hc]
  conv=>lhs;rw [e1]
  rw [List.append_assoc,List.set_append_right _ _ (by omega),hl,Nat.add_sub_cancel_left,List.set_append_left _ _ (by rw [E.len];exact ho),List.append_assoc]
 unfold rowE
 rw [stQ_own hb (by rw [flat_len,List.length_cons,List.length_nil];omega) (by simp [ha])]
 show some (K ⟨.cells ((flat E l).set (i * E.z+o) a) e true false,ver⟩)=_
 rw [key]
end Go.AM
namespace Go.AM
open Go.Proofs.Tryz
attribute [-go_sem] put_ne put_same
attribute [local go_sem ↓] put_if
attribute [-go_sem] bin_shr bin_mul bin_add
section
variable {n:Nat}
theorem andM {t:TypeId} (hn:n<4294967296):binA prog .and t (.int .u64 (n:Int)) (.int .u64 4294967295)=some (.int .u64 (n:Int)):=by
 have e:BitVec.ofInt 64 (n:Int) &&& BitVec.ofInt 64 4294967295=BitVec.ofNat 64 n:=by
  apply BitVec.eq_of_toNat_eq
  have h2:n &&& 4294967295=n % 4294967296:=Nat.and_two_pow_sub_one_eq_mod n 32
  simp [BitVec.toNat_and,BitVec.toNat_ofInt]
  have h4:(n:Int) % 18446744073709551616=n:=Int.emod_eq_of_lt (by omega) (by omega)
  rw [Nat.mod_eq_of_lt (by omega),h2,Nat.mod_eq_of_lt (by omega)]
 show some (AVal.int .u64 (IntKind.u64.wrap ((BitVec.ofInt 64 (n:Int) &&& BitVec.ofInt 64 4294967295).toNat:Int)))=_
 rw [e,BitVec.toNat_ofNat,Nat.mod_eq_of_lt (by omega),wrapU,Nat.mod_eq_of_lt (by omega)]
theorem shrM {t:TypeId} (hn:n<4294967296):binA prog .shr t (.int .u64 (n:Int)) (.int .u64 32)=some (.int .u64 0):=by
 have:=shrU (t:=t) (a:=n) (b:=32) (by omega)
 rw [Nat.div_eq_of_lt (by omega)] at this
 exact this
theorem mulM {t:TypeId} (hn:n<4294967296):binA prog .mul t (.int .u64 1) (.int .u64 (n:Int))=some (.int .u64 (n:Int)):=by
 have:=mulU (t:=t) (a:=1) (b:=n)
 rw [Nat.one_mul,Nat.mod_eq_of_lt (by omega)] at this
 exact this
theorem mulZ {t:TypeId}:binA prog .mul t (.int .u64 0) (.int .u64 (n:Int))=some (.int .u64 0):=by
 have:=mulU (t:=t) (a:=0) (b:=n)
 rw [Nat.zero_mul] at this
 exact this
theorem run_mul64 {base:Nat} {h:Heap} (hn:n<4294967296):callL prog raw base (.fn 257 [] []) [.int .u64 1,.int .u64 (n:Int)] h=some (.tuple [.int .u64 0,.int .u64 (n:Int)],h):=by
 have a1:=andM (n:=n) (t:=134) hn
 have a2:=shrM (n:=n) (t:=134) hn
 have a3:=mulM (n:=n) (t:=134) hn
 have a4:=mulZ (n:=n) (t:=134)
 have b1:binA prog .and 134 (.int .u64 1) (.int .u64 4294967295)=some (.int .u64 1):=andM (n:=1) (by omega)
 have b2:binA prog .shr 134 (.int .u64 1) (.int .u64 32)=some (.int .u64 0):=shrM (n:=1) (by omega)
 have b3:binA prog .and 134 (.int .u64 0) (.int .u64 4294967295)=some (.int .u64 0):=andM (n:=0) (by omega)
 have b4:binA prog .shr 134 (.int .u64 0) (.int .u64 32)=some (.int .u64 0):=shrM (n:=0) (by omega)
 have b5:binA prog .add 134 (.int .u64 0) (.int .u64 0)=some (.int .u64 0):=addU (a:=0) (b:=0)
 have b6:binA prog .mul 134 (.int .u64 1) (.int .u64 0)=some (.int .u64 0):=mulM (n:=0) (by omega)
 have b7:binA prog .mul 134 (.int .u64 0) (.int .u64 0)=some (.int .u64 0):=mulZ (n:=0)
 refine callL_run func257 rfl rfl ?_
 have hsp:=@Nat.succ_ne_zero;repeat' (first|simp (disch:=first|exact dqb|fail) only [go_sem,↓reduceIte,hsp,a1,a2,a3,a4,b1,b2,b3,b4,b5,b6,b7]|refine WP_drw ?_|refine cnd_intro (fun hsp=>?_) fun hsp=>?_)
 exact compact_plain' rfl
theorem run_mul {base:Nat} {h:Heap} (hn:n<4294967296):callL prog raw base (.fn 202 [] []) [.int .u64 1,.int .u64 (n:Int)] h=some (.tuple [.int .u64 0,.int .u64 (n:Int)],h):=by
 have a1:=fun base=>run_mul64 (base:=base) (h:=h) hn
 refine callL_run func202 rfl rfl ?_
 have hsp:=@Nat.succ_ne_zero;repeat' (first|simp (disch:=first|exact dqb|fail) only [go_sem,↓reduceIte,hsp,a1]|refine WP_drw ?_|refine cnd_intro (fun hsp=>?_) fun hsp=>?_)
 exact compact_plain' rfl
end
section
variable {α:Type} {E:Enc α} {P:Program} {t e:TypeId} {base id ver a b:Nat} {h:Heap} {l:List α} {zs:List AVal}
theorem flat_drop {i:Nat} (hi:i≤l.length):(flat E l).drop (i * E.z)=flat E (l.drop i):=by
 have h1:=flat_app E (l:=l.take i) (m:=l.drop i)
 rw [List.take_append_drop] at h1
 rw [h1,show i * E.z=(flat E (l.take i)).length by rw [flat_len,List.length_take,Nat.min_eq_left hi],List.drop_left]
theorem flat_take {i:Nat} (hi:i≤l.length):(flat E l).take (i * E.z)=flat E (l.take i):=by
 have h1:=flat_app E (l:=l.take i) (m:=l.drop i)
 rw [List.take_append_drop] at h1
 rw [h1,show i * E.z=(flat E (l.take i)).length by rw [flat_len,List.length_take,Nat.min_eq_left hi],List.take_left]
theorem stE {s:List α} (hg:h[id]?=some (rowE E e l ver)) (hs:∀ y,(E.cells y).all AVal.scalar=true) (hb:base≤id) (ha:a+s.length≤l.length) :
  storeN base h ⟨id,ver,a * E.z⟩ (flat E s)=some (h.set id (rowE E e (l.take a++s++l.drop (a+s.length)) ver)):=by
 have h1:flat E l=flat E (l.take a)++flat E ((l.drop a).take s.length)++flat E (l.drop (a+s.length)):=by
  rw [← flat_app,← flat_app]
  congr 1
  rw [List.append_assoc,← List.drop_drop,List.take_append_drop,List.take_append_drop]
 have h2:=splice_mid (flat E s) (flat E (l.take a)) (flat E ((l.drop a).take s.length)) (flat E (l.drop (a+s.length))) (by rw [flat_len,flat_len,List.length_take,List.length_drop,Nat.min_eq_left (by omega)])
 rw [← h1,← flat_app,← flat_app,show (flat E (l.take a)).length=a * E.z by rw [flat_len,List.length_take,Nat.min_eq_left (by omega)]] at h2
 have hle:a * E.z+s.length * E.z≤l.length * E.z:=by rw [← Nat.add_mul];exact Nat.mul_le_mul_right _ ha
 unfold storeN
 simp only [hg,rowE]
 rw [if_pos ⟨trivial,by rw [flat_len,flat_len];exact hle,flat_scalar hs _,.inl hb⟩,h2]
theorem ldE {m n k:Nat} (hg:h[id]?=some (rowE E e l ver)) (hb:b+m≤l.length):firstN h E.z m (.slice (some ⟨id,ver,b * E.z⟩) n k)=some (flat E ((l.drop b).take m)):=by
 have hle:b * E.z+m * E.z≤l.length * E.z:=by rw [← Nat.add_mul];exact Nat.mul_le_mul_right _ hb
 simp only [firstN,loadN,cellsAt,hg,rowE,if_true]
 rw [if_pos (by rw [flat_len];exact hle),flat_drop (by omega),flat_take (by rw [List.length_drop];omega)]
theorem cpE {n m k q:Nat} (hg:h[id]?=some (rowE E e l ver)) (hs:∀ y,(E.cells y).all AVal.scalar=true) (ht:elS P t=some (e,E.z,zs)) (hb:base≤id) (h1:a+min m n≤l.length) (h2:b+min m n≤l.length) :
  copyA P base h t (.slice (some ⟨id,ver,a * E.z⟩) n k) (.slice (some ⟨id,ver,b * E.z⟩) m q)=some (.int .i64 ((min m n:Nat):Int),h.set id (rowE E e (l.take a++(l.drop b).take (min m n)++l.drop (a+min m n)) ver)):=by
 have hl:((l.drop b).take (min m n)).length=min m n:=by rw [List.length_take,List.length_drop];omega
 have hst:=stE (base:=base) (a:=a) (s:=(l.drop b).take (min m n)) hg hs hb (by omega)
 rw [hl] at hst
 simp only [copyA,ht,lenA,ldE hg h2,hst]
theorem cpR {n k:Nat} {x:AVal} {s:List α} (hg:h[id]?=some (rowE E e l ver)) (hx:Rows E h x s) (hs:∀ y,(E.cells y).all AVal.scalar=true) (ht:elS P t=some (e,E.z,zs)) (hb:base≤id) (h1:a+s.length≤l.length) (hn:s.length≤n) :
  copyA P base h t (.slice (some ⟨id,ver,a * E.z⟩) n k) x=some (.int .i64 (s.length:Int),h.set id (rowE E e (l.take a++s++l.drop (a+s.length)) ver)):=by
 simp only [copyA,ht,hx.lenA,Nat.min_eq_left hn,hx.firstN,stE hg hs hb h1]
theorem slE_lo {n k:Nat} {lo:Int} (ht:elS P t=some (e,E.z,zs)) (ha:arT P t=none) (h0:0≤lo) (h1:lo≤n):sliceA P t (.slice (some ⟨id,ver,0⟩) n k) (some (.int .i64 lo)) none none=some (.slice (some ⟨id,ver,lo.toNat * E.z⟩) (n-lo.toNat) (k-lo.toNat)):=by
 simp only [sliceA,ha,ht,optB,boundI h0 h1]
 simp [ARef.add]
theorem slE_hi {n k:Nat} {hi:Int} (ht:elS P t=some (e,E.z,zs)) (ha:arT P t=none) (h0:0≤hi) (h1:hi≤k):sliceA P t (.slice (some ⟨id,ver,0⟩) n k) none (some (.int .i64 hi)) none=some (.slice (some ⟨id,ver,0 * E.z⟩) hi.toNat k):=by
 simp only [sliceA,ha,ht,optB,boundI h0 h1,boundI (Int.le_refl 0) (show (0:Int)≤((hi.toNat:Nat):Int) by omega)]
 simp [ARef.add]
end
theorem rep_part {α:Type} {x y:α} {n k m:Nat} (h:k+m≤n) (hm:m≤k):(List.replicate k x++List.replicate (n-k) y).take k++((List.replicate k x++List.replicate (n-k) y).drop 0).take m++(List.replicate k x++List.replicate (n-k) y).drop (k+m)=List.replicate (k+m) x++List.replicate (n-(k+m)) y:=by
 rw [List.take_left' (by simp),List.drop_zero,List.take_append_of_le_length (by simp;omega),List.take_replicate,Nat.min_eq_left hm,List.replicate_append_replicate,← List.drop_drop,List.drop_left' (by simp),List.drop_replicate]
 congr 2
 omega
set_option maxRecDepth 100000 in
set_option maxHeartbeats 4000000 in
theorem run_repeat {base n:Nat} {h:Heap} {v:AVal} {c:Ct} (hb:base≤h.length) (hI:Rows encC h v [c]) (hn:1≤n∧n≤60) :
  Ret prog raw base (.fn 131 [] []) [v,.int .i64 (n:Int)] h (fun w H=>Ext h H∧w=.slice (some ⟨h.length,0,0⟩) n n∧H[h.length]?=some (rowE encC 95 (List.replicate n c) 0)):=by
 have o1:=hI.one
 have hln:=hI.len (P:=prog) Fc.el41
 simp only [List.length_cons,List.length_nil] at hln
 have m1:=fun base=>run_mul (base:=base) (h:=h) (n:=n) (by omega)
 have t1:((n:Int)<0)=False:=eq_false (by omega)
 have t2:((n:Int) > 9223372036854775807)=False:=eq_false (by omega)
 have t3:((0:Int) > 0)=False:=eq_false (by omega)
 have c1:convA prog 278 3 (.int .i64 1)=some (.int .u64 1):=by
  simp only [convA,underlying3,Fc.ik278];rfl
 have c2:convA prog 278 3 (.int .i64 (n:Int))=some (.int .u64 (n:Int)):=by
  simp only [convA,underlying3,Fc.ik278,wrapU]
  rw [Nat.mod_eq_of_lt (by omega)]
 have c3:convA prog 3 278 (.int .u64 (n:Int))=some (.int .i64 (n:Int)):=by
  simp only [convA,underlying278,Fc.ik3]
  rw [wrap64 (by omega) (by omega)]
 obtain ⟨z,ez⟩:∃ z:Ct,z=⟨0,0,false⟩:=⟨_,rfl⟩
 have mk:=make_full (h:=h) (n:=n) Fc.el41 (by omega) (by omega)
 have eF:∀ l,(⟨.cells (flat encC l) 95 true false,0⟩:ABlk)=rowE encC 95 l 0:=fun _=>rfl
 rw [show [AVal.int .i64 0,.int .i64 0,.bool false]=encC.cells z by rw [ez];rfl,rep_flat,eF] at mk
 have g0:(h++[rowE encC 95 (List.replicate n z) 0])[h.length]?=some (rowE encC 95 (List.replicate n z) 0):=get_eq rfl
 have cp:=cpR (P:=prog) (base:=base) (t:=41) (a:=0) (n:=n) (k:=n) g0 hI.app encC_sc Fc.el41 hb (by simp;omega) (by simp;omega)
 rw [Nat.zero_mul,set_eq rfl] at cp
 have er:(List.replicate n z).take 0++[c]++(List.replicate n z).drop (0+[c].length)=List.replicate 1 c++List.replicate (n-1) z:=by simp
 rw [er] at cp
 simp only [List.length_cons,List.length_nil] at cp
 have hnl:∀ l,lenOpA prog (h++[rowE encC 95 l 0]) 41 (.slice (some ⟨h.length,0,0⟩) n n)=some (.int .i64 (n:Int)):=fun l=>len_sl Fc.el41
 refine ret_raw func131 rfl (by kernel_rfl) ?_
 have hsp:=@Nat.succ_ne_zero;repeat' (first|simp (disch:=first|exact dqb|fail) only [go_sem,↓reduceIte,hsp,t1,hln,c1,c2,m1,t2,t3,c3,mk,cp]|refine WP_drw ?_|refine cnd_intro (fun hsp=>?_) fun hsp=>?_)
 refine WP_iter [(8,46)] (fun _ (k:Nat) fr H=>fr 8=.int .i64 (k:Int)∧H=h++[rowE encC 95 (List.replicate k c++List.replicate (n-k) z) 0]∧1≤k∧k≤n) (fun k=>n-k) 1 ?_ ?_
 ·exact ⟨by (simp (disch:=first|exact dqb|fail) only [go_sem,↓reduceIte,Int.natCast_zero];first|done|rfl),rfl,Nat.le_refl _,hn.1⟩
 ·rintro k fr H hA ⟨r8,rfl,hk1,hk2⟩
  have p4:=hA 4 rfl
  have p7:=hA 7 rfl
  try simp (disch:=first|exact dqb|fail) only [go_sem,↓reduceIte] at p4 p7
  by_cases hkn:k<n
  ·have hlt:((k:Int)<(n:Int))=True:=eq_true (by omega)
   have s1:=slE_lo (P:=prog) (E:=encC) (id:=h.length) (ver:=0) (n:=n) (k:=n) (lo:=(k:Int)) Fc.el41 Fc.ar41 (by omega) (by omega)
   have s2:=slE_hi (P:=prog) (E:=encC) (id:=h.length) (ver:=0) (n:=n) (k:=n) (hi:=(k:Int)) Fc.el41 Fc.ar41 (by omega) (by omega)
   rw [Int.toNat_natCast] at s1 s2
   obtain ⟨m,em⟩:∃ m,m=min k (n-k):=⟨_,rfl⟩
   have gk:(h++[rowE encC 95 (List.replicate k c++List.replicate (n-k) z) 0])[h.length]?=some (rowE encC 95 (List.replicate k c++List.replicate (n-k) z) 0):=get_eq rfl
   have cp2:=cpE (P:=prog) (base:=base) (t:=41) (a:=k) (b:=0) (n:=n-k) (k:=n-k) (m:=k) (q:=n) gk encC_sc Fc.el41 hb (by simp;omega) (by simp;omega)
   rw [← em,set_eq rfl,rep_part (by omega) (by omega)] at cp2
   rw [Nat.zero_mul] at s2 cp2
   have ad:binA prog .add 3 (.int .i64 (k:Int)) (.int .i64 (m:Int))=some (.int .i64 ((k+m:Nat):Int)):=by rw [bin_add,wrap64 (by omega) (by omega)];rfl
   have hsp:=@Nat.succ_ne_zero;repeat' (first|simp (disch:=first|exact dqb|fail) only [go_sem,↓reduceIte,hsp,r8,p4,p7,hnl,hlt,s1,s2,cp2,ad]|refine WP_drw ?_|refine cnd_intro (fun hsp=>?_) fun hsp=>?_)
   exact ⟨agq,k+m,⟨rfl,rfl,by omega,by omega⟩,by omega⟩
  ·have hlt:((k:Int)<(n:Int))=False:=eq_false (by omega)
   obtain rfl:k=n:=by omega
   have hsp:=@Nat.succ_ne_zero;repeat' (first|simp (disch:=first|exact dqb|fail) only [go_sem,↓reduceIte,hsp,r8,p4,p7,hnl,hlt]|refine WP_drw ?_|refine cnd_intro (fun hsp=>?_) fun hsp=>?_)
   exact ⟨.app .refl,by rw [Nat.sub_self];simp⟩
end Go.AM
namespace Go.AM
open Go.Proofs.Tryz
attribute [-go_sem] put_ne put_same
attribute [local go_sem ↓] put_if
def thV (_:Bool):AVal:=.fn 49 [] []
theorem run_than {base:Nat} {h:Heap} {b:Bool} {e c e' c':Int} (hb:b=false):callL prog raw base (thV b) [.agg [.int .i64 e,.int .i64 c],.agg [.int .i64 e',.int .i64 c']] h=some (.bool (thB b (e,c) (e',c')),h):=by
 subst hb
 unfold thB
 show callL prog raw base (.fn 49 [] []) _ _=_
 refine callL_run func49 rfl rfl ?_
 have hsp:=@Nat.succ_ne_zero;repeat' (first|simp (disch:=first|exact dqb|fail) only [go_sem,↓reduceIte,hsp]|refine WP_drw ?_|refine cnd_intro (fun hsp=>?_) fun hsp=>?_)
 exact fB (by simp)
theorem thV_one {b:Bool}:One (thV b):=⟨rfl,rfl,rfl⟩
section
variable {b:Bool} {R:Rib} {x y:Nat}
abbrev bstB (l:List Int):ABlk:=⟨.cells (ints l) 253 false false,0⟩
def bsL (b:Bool) (R:Rib) (x:Nat):List Int:=lst (fun i=>if x≤i / 2 then (if i % 2=0 then (folD b R (i / 2)).e else (folD b R (i / 2)).c) else 0) 122
def bsP (b:Bool) (R:Rib) (x:Nat) (e c:Int):List Int:=lst (fun i=>if i / 2=x then (if i % 2=0 then e else c) else if x<i / 2 then (if i % 2=0 then (folD b R (i / 2)).e else (folD b R (i / 2)).c) else 0) 122
theorem bsL_len:(bsL b R x).length=122:=lst_len
theorem bsP_len {e c:Int}:(bsP b R x e c).length=122:=lst_len
theorem bsL_end:bsL b R R.L.toNat=lst (fun _=>0) 122:=lst_congr fun i _=>by
 split
 ·rename_i h;rw [folD_end h];split<;>rfl
 ·rfl
theorem bsP_set {e c e' c':Int} (hx:x<61):((bsP b R x e c).set (x * 2) e').set (x * 2+1) c'=bsP b R x e' c':=by
 unfold bsP
 rw [lst_set (by omega),lst_set (by omega)]
 refine lst_congr fun i _=>?_
 by_cases h:i / 2=x
 ·by_cases h2:i % 2=0
  ·rw [if_neg (show ¬ i=x * 2+1 by omega),if_pos (show i=x * 2 by omega),if_pos h,if_pos h2]
  ·rw [if_pos (show i=x * 2+1 by omega),if_pos h,if_neg h2]
 ·rw [if_neg (by omega),if_neg (by omega),if_neg h,if_neg h]
theorem bsL_set {e c:Int} (hx:x<61):((bsL b R (x+1)).set (x * 2) e).set (x * 2+1) c=bsP b R x e c:=by
 unfold bsP bsL
 rw [lst_set (by omega),lst_set (by omega)]
 refine lst_congr fun i _=>?_
 by_cases h:i / 2=x
 ·rw [if_pos h]
  by_cases h2:i % 2=0
  ·rw [if_neg (by omega),if_pos (by omega),if_pos h2]
  ·rw [if_pos (by omega),if_neg h2]
 ·rw [if_neg (by omega),if_neg (by omega),if_neg h]
  by_cases h3:x<i / 2
  ·rw [if_pos (by omega),if_pos h3]
  ·rw [if_neg (by omega),if_neg h3]
theorem bsP_all:bsP b R x (folD b R x).e (folD b R x).c=bsL b R x:=lst_congr fun i _=>by
 by_cases h:i / 2=x
 ·rw [if_pos h,if_pos (show x≤i / 2 by omega),h]
 ·rw [if_neg h]
  by_cases h3:x<i / 2
  ·rw [if_pos h3,if_pos (show x≤i / 2 by omega)]
  ·rw [if_neg h3,if_neg (show ¬ x≤i / 2 by omega)]
theorem bsL_e (hy:y<61) (h:x≤y):(bsL b R x).getD (y * 2) 0=(folD b R y).e:=by
 unfold bsL;rw [lst_get (by omega),show y * 2 / 2=y by omega,if_pos h,if_pos (by omega)]
theorem bsL_c (hy:y<61) (h:x≤y):(bsL b R x).getD (y * 2+1) 0=(folD b R y).c:=by
 unfold bsL;rw [lst_get (by omega),show (y * 2+1) / 2=y by omega,if_pos h,if_neg (by omega)]
theorem bsP_e {e c:Int} (hy:y<61) (h:x<y):(bsP b R x e c).getD (y * 2) 0=(folD b R y).e:=by
 unfold bsP;rw [lst_get (by omega),show y * 2 / 2=y by omega,if_neg (by omega),if_pos h,if_pos (by omega)]
theorem bsP_c {e c:Int} (hy:y<61) (h:x<y):(bsP b R x e c).getD (y * 2+1) 0=(folD b R y).c:=by
 unfold bsP;rw [lst_get (by omega),show (y * 2+1) / 2=y by omega,if_neg (by omega),if_pos h,if_neg (by omega)]
theorem bsP_xe {e c:Int} (hx:x<61):(bsP b R x e c).getD (x * 2) 0=e:=by
 unfold bsP;rw [lst_get (by omega),show x * 2 / 2=x by omega,if_pos rfl,if_pos (by omega)]
theorem bsP_xc {e c:Int} (hx:x<61):(bsP b R x e c).getD (x * 2+1) 0=c:=by
 unfold bsP;rw [lst_get (by omega),show (x * 2+1) / 2=x by omega,if_pos rfl,if_neg (by omega)]
theorem ldC2 {l:List Int} {e:TypeId} {row ro:Bool} (hl:l.length=122) (hy:y<61):ldB (some (true,2)) (some ⟨.cells (ints l) e row ro,0⟩) 0 (y * 2)=some (.agg [.int .i64 (l.getD (y * 2) 0),.int .i64 (l.getD (y * 2+1) 0)]):=by
 rw [ldB_agg (by rw [ints_length];omega)]
 congr 2
 have h1:y * 2<(ints l).length:=by rw [ints_length];omega
 have h2:y * 2+1<(ints l).length:=by rw [ints_length];omega
 rw [List.drop_eq_getElem_cons h1,List.drop_eq_getElem_cons h2]
 have g1:=ints_get (l:=l) (i:=y * 2) (by omega)
 have g2:=ints_get (l:=l) (i:=y * 2+1) (by omega)
 rw [List.getElem?_eq_getElem h1] at g1
 rw [List.getElem?_eq_getElem h2] at g2
 rw [Option.some.inj g1,Option.some.inj g2];rfl
theorem stC2 {l:List Int} {e:TypeId} {row:Bool} {base id:Nat} {p q:Int} {K:ABlk→Heap} (hl:l.length=122) (hy:y<61):stQ base id (some ⟨.cells (ints l) e row false,0⟩) 0 (y * 2) [.int .i64 p,.int .i64 q] K=some (K ⟨.cells (ints ((l.set (y * 2) p).set (y * 2+1) q)) e row false,0⟩):=by
 simp only [stQ]
 rw [if_pos ⟨trivial,by rw [ints_length];simp only [List.length_cons,List.length_nil];omega,by simp [AVal.scalar],.inr (by simp [AVal.bare])⟩]
 simp only [splice,ints_set]
def toS (b:Bool) (R:Rib) (x:Nat):List Int:=lst (fun y=>if x≤y then ((folD b R y).to:Int) else 0) R.L.toNat
def toP (b:Bool) (R:Rib) (x:Nat) (t:Int):List Int:=lst (fun y=>if y=x then t else if x<y then ((folD b R y).to:Int) else 0) R.L.toNat
theorem toP_set {t t':Int} (hx:x<R.L.toNat):(toP b R x t).set x t'=toP b R x t':=by
 unfold toP
 rw [lst_set hx]
 refine lst_congr fun i _=>?_
 split<;>rfl
theorem toS_set {t:Int} (hx:x<R.L.toNat):(toS b R (x+1)).set x t=toP b R x t:=by
 unfold toP toS
 rw [lst_set hx]
 refine lst_congr fun i _=>?_
 split
 ·rfl
 ·by_cases h3:x<i
  ·rw [if_pos (by omega),if_pos h3]
  ·rw [if_neg (by omega),if_neg h3]
theorem toP_all:toP b R x ((folD b R x).to:Int)=toS b R x:=lst_congr fun i _=>by
 by_cases h:i=x
 ·rw [if_pos h,if_pos (show x≤i by omega),h]
 ·rw [if_neg h]
  by_cases h3:x<i
  ·rw [if_pos h3,if_pos (show x≤i by omega)]
  ·rw [if_neg h3,if_neg (show ¬ x≤i by omega)]
theorem toS_end:toS b R R.L.toNat=lst (fun _=>0) R.L.toNat:=lst_congr fun i hi=>by rw [if_neg (by omega)]
theorem toS_len:(toS b R x).length=R.L.toNat:=lst_len
theorem toP_len {t:Int}:(toP b R x t).length=R.L.toNat:=lst_len
theorem toS_at (hy:y<R.L.toNat) (h:x≤y):(toS b R x).getD y 0=((folD b R y).to:Int):=by
 unfold toS;rw [lst_get hy,if_pos h]
def nxS (b:Bool) (R:Rib) (x:Nat):List Ct:=(List.range R.L.toNat).map fun y=>if x≤y then (folD b R y).nx else noC
def nxP (b:Bool) (R:Rib) (x:Nat) (c:Ct):List Ct:=(List.range R.L.toNat).map fun y=>if y=x then c else if x<y then (folD b R y).nx else noC
theorem nxP_len {c:Ct}:(nxP b R x c).length=R.L.toNat:=by simp [nxP]
theorem nxP_set {c c':Ct} (hx:x<R.L.toNat):(nxP b R x c).set x c'=nxP b R x c':=by
 refine List.ext_getElem? fun i=>?_
 rw [List.getElem?_set,nxP_len]
 unfold nxP
 by_cases hi:i<R.L.toNat
 ·rw [List.getElem?_map,List.getElem?_map,List.getElem?_range hi]
  by_cases h:x=i
  ·subst h;simp [hx]
  ·rw [if_neg h]
   simp only [Option.map_some]
   rw [if_neg (fun q:i=x=>h q.symm),if_neg (fun q:i=x=>h q.symm)]
 ·rw [List.getElem?_eq_none (by simp;omega),List.getElem?_eq_none (by simp;omega)]
  split
  ·omega
  ·rfl
theorem nxS_P:nxS b R (x+1)=nxP b R x noC:=by
 unfold nxS nxP
 refine List.map_congr_left fun i _=>?_
 by_cases h:i=x
 ·rw [if_pos h,if_neg (by omega)]
 ·rw [if_neg h]
  by_cases h3:x<i
  ·rw [if_pos (by omega),if_pos h3]
  ·rw [if_neg (by omega),if_neg h3]
theorem nxP_all:nxP b R x (folD b R x).nx=nxS b R x:=by
 unfold nxS nxP
 refine List.map_congr_left fun i _=>?_
 by_cases h:i=x
 ·rw [if_pos h,if_pos (show x≤i by omega),h]
 ·rw [if_neg h]
  by_cases h3:x<i
  ·rw [if_pos h3,if_pos (show x≤i by omega)]
  ·rw [if_neg h3,if_neg (show ¬ x≤i by omega)]
theorem nxS_end:nxS b R R.L.toNat=List.replicate R.L.toNat noC:=by
 unfold nxS
 refine List.ext_getElem? fun i=>?_
 by_cases hi:i<R.L.toNat
 ·rw [List.getElem?_map,List.getElem?_range hi,List.getElem?_replicate,if_pos hi]
  simp only [Option.map_some]
  rw [if_neg (by omega)]
 ·rw [List.getElem?_eq_none (by simp;omega),List.getElem?_eq_none (by simp;omega)]
theorem nxS_at (hy:y<R.L.toNat) (h:x≤y):(nxS b R x)[y]?=some (folD b R y).nx:=by
 unfold nxS
 rw [List.getElem?_map,List.getElem?_range hy]
 simp only [Option.map_some]
 rw [if_pos h]
end
end Go.AM
namespace Go.AM
open Go.Proofs.Tryz
attribute [-go_sem] put_ne put_same
attribute [local go_sem ↓] put_if
abbrev cslB (v:AVal):ABlk:=⟨.cells [v] 41 false false,0⟩
abbrev islB (v:AVal):ABlk:=⟨.cells [v] 35 false false,0⟩
abbrev onB (g:AVal):ABlk:=⟨.cells [g] 263 false false,0⟩
abbrev onV (d nx no ou fn tb:Nat):AVal:=.fn 133 [] [.ptr (some ⟨d,0,0⟩),.ptr (some ⟨nx,0,0⟩),.ptr (some ⟨no,0,0⟩),.ptr (some ⟨ou,0,0⟩),.ptr (some ⟨fn,0,0⟩),.ptr (some ⟨tb,0,0⟩)]
structure FolC (b:Bool) (R:Rib) (H0:Heap) (id d nx no tb r1 r2:Nat):Prop where
 dk:DskAt H0 id R
 d:H0[d]?=some (pB id)
 nx:H0[nx]?=some (cslB (.slice (some ⟨r1,0,0⟩) R.L.toNat R.L.toNat))
 r1:H0[r1]?=some (rowE encC 95 (nxS b R 0) 0)
 no:H0[no]?=some (cutB noC)
 tb:H0[tb]?=some (islB (.slice (some ⟨r2,0,0⟩) R.L.toNat R.L.toNat))
 r2:H0[r2]?=some (rowB (toS b R 0) 0)
theorem folD_nx {b:Bool} {R:Rib} {x:Nat} (hR:RibOk R) (hx:x<R.L.toNat):(folD b R x).nx=noC ∨ ((folD b R x).nx.w ≠ -1∧0≤(folD b R x).nx.w):=by
 rcases folD_is (b:=b) hR hx with q|⟨c,hc,q⟩
 ·left;rw [q]
 ·right
  have hb:=cutL_b hR hx hc
  rw [q];simp only;omega
theorem folD_to {b:Bool} {R:Rib} {x:Nat} (hR:RibOk R) (hx:x<R.L.toNat):x<(folD b R x).to∧(folD b R x).to≤R.L.toNat:=by
 rcases folD_is (b:=b) hR hx with q|⟨c,hc,q⟩
 ·rw [q];simp only;omega
 ·have hb:=(cutL_b hR hx hc).1
  rw [q];simp only;omega
theorem ldB_rowE {α:Type} {E:Enc α} {e:TypeId} {l:List α} {i ver z:Nat} {x:α} (hx:l[i]?=some x) (hz:z=E.z):ldB (some (true,z)) (some (rowE E e l ver)) ver (i * z)=some (.agg (E.cells x)):=by
 subst hz
 have hi:=(List.getElem?_eq_some_iff.1 hx).1
 have hle:i * E.z+E.z≤l.length * E.z:=by rw [← Nat.succ_mul];exact Nat.mul_le_mul_right _ hi
 unfold rowE
 rw [ldB_agg (by rw [flat_len];exact hle),flat_get E hx]
theorem bsC1 {lit:Bool} {H:Heap} {c:Ct}:bsA prog lit H 41 1 [(0,.agg [.int .i64 c.w,.int .i64 c.f,.bool c.j])]=some (.slice (some ⟨H.length,0,0⟩) 1 1,H++[rowE encC 95 [c] 0]):=by
 simp [bsA,rowOf,Fc.el41,fillA,repCells,AVal.isN,AVal.cells,splice,rowE,flat,encC]
theorem ints_rowB {H:Heap} {A n:Nat} {l:List Int} (hg:H[A]?=some (rowB l 0)) (hs:Small l) (hn:n=l.length):Ints H (.slice (some ⟨A,0,0⟩) n n) l:=by
 subst hn
 exact (Rows.own (E:=encI) (e:=3) (by rw [rowE,flat_encI];exact hg) rfl (by have:=hs.1;omega)).ints hs.2
theorem toS_small {b:Bool} {R:Rib} {x:Nat} (hR:RibOk R):Small (toS b R x):=by
 have hL:=hR.L
 refine ⟨by rw [toS_len];omega,fun y hy=>?_⟩
 unfold toS lst at hy
 obtain ⟨i,hi,rfl⟩:=List.mem_map.1 hy
 have hi:=List.mem_range.1 hi
 have:=folD_to (b:=b) hR hi
 split<;>omega
theorem stN10 {base:Nat} {l:List Oper} {s:St} {Q:AExit→St→Prop}:WP prog raw base (.region 3 l.toArray true) s Q=WPS prog raw base (.region 3 l.toArray true) s Q:=WP_stop
attribute [local go_sem ↓ 3000] stN10
set_option maxRecDepth 100000 in
set_option maxHeartbeats 4000000 in
theorem run_on {base id d nx no tb r1 r2 ou:Nat} {b:Bool} {R:Rib} {H0:Heap} (hR:RibOk R) (hC:FolC b R H0 id d nx no tb r1 r2) (hb:base≤H0.length) (hou:H0.length=ou) :
  ∀ (n x:Nat) (H:Heap) (ov:AVal) (out:List Ct),R.L.toNat≤x+n→x≤R.L.toNat→Ext H0 H→H[ou]?=some (cslB ov)→H[ou+1]?=some (onB (onV d nx no ou (ou+1) tb))→Own encC 95 (ou+2) H ov out→out.length+n≤1000 →
   Ret prog raw base (onV d nx no ou (ou+1) tb) [.int .i64 (x:Int)] H (fun w H'=>w=.tuple []∧Ext H0 H'∧H.length≤H'.length∧∃ ov',H'[ou]?=some (cslB ov')∧H'[ou+1]?=some (onB (onV d nx no ou (ou+1) tb))∧Own encC 95 (ou+2) H' ov' (out++pthL b R n x)):=by
 intro n
 induction n with
 | zero =>
  intro x H ov out hn hx xH go gf hO hol
  obtain ⟨fv,wv,gd,hF,hW⟩:=hC.dk.ext xH
  have g1:=xH.get hC.d
  have dL:=fun z=>dsk_ld0 (L:=R.L) (fv:=fv) (wv:=wv) (F:=R.F) (z:=z)
  have l1:=lt_of_get g1
  have l2:=lt_of_get gd
  have hL:=hR.L
  have t1:((x:Int)=R.L)=True:=eq_true (by omega)
  unfold pB at g1
  refine ret_raw func133 rfl (by kernel_rfl) ?_
  have hsp:=@Nat.succ_ne_zero;repeat' (first|simp (disch:=first|exact dqb|fail) only [go_sem,↓reduceIte,hsp,g1,gd,dL,t1]|refine WP_drw ?_|refine cnd_intro (fun hsp=>?_) fun hsp=>?_)
  exact ⟨xH,Nat.le_refl _,ov,go,gf,by rw [pthL,List.append_nil];exact hO⟩
 | succ n ih =>
  intro x H ov out hn hx xH go gf hO hol
  obtain ⟨fv,wv,gd,hF,hW⟩:=hC.dk.ext xH
  have g1:=xH.get hC.d
  have dL:=fun z=>dsk_ld0 (L:=R.L) (fv:=fv) (wv:=wv) (F:=R.F) (z:=z)
  have l1:=lt_of_get g1
  have l2:=lt_of_get gd
  have hL:=hR.L
  unfold pB at g1
  by_cases hxL:x=R.L.toNat
  ·have t1:((x:Int)=R.L)=True:=eq_true (by omega)
   refine ret_raw func133 rfl (by kernel_rfl) ?_
   have hsp:=@Nat.succ_ne_zero;repeat' (first|simp (disch:=first|exact dqb|fail) only [go_sem,↓reduceIte,hsp,g1,gd,dL,t1]|refine WP_drw ?_|refine cnd_intro (fun hsp=>?_) fun hsp=>?_)
   exact ⟨xH,Nat.le_refl _,ov,go,gf,by rw [pthL,if_pos hxL,List.append_nil];exact hO⟩
  ·have hxl:x<R.L.toNat:=by omega
   have t1:((x:Int)=R.L)=False:=eq_false (by omega)
   have g2:=xH.get hC.nx
   have g3:=xH.get hC.r1
   have g4:=xH.get hC.no
   have g5:=xH.get hC.tb
   have g6:=xH.get hC.r2
   have l3:=lt_of_get g2
   have l4:=lt_of_get g3
   have l5:=lt_of_get g4
   have l6:=lt_of_get g5
   have l7:=lt_of_get g6
   have lo:=lt_of_get go
   have lf:=lt_of_get gf
   have k2:=lt_of_get hC.nx
   have k3:=lt_of_get hC.r1
   have k5:=lt_of_get hC.tb
   have k6:=lt_of_get hC.r2
   have oO:=hO.one
   have hLL:R.L=(R.L.toNat:Int):=by omega
   have ht:=folD_to (b:=b) hR hxl
   have iT:=ints_rowB g6 (toS_small hR) toS_len.symm
   have tb0:∀ z,ldB (some (false,z)) (some (rowB (toS b R 0) 0)) 0 x=some (.int .i64 ((folD b R x).to:Int)):=fun z=>by rw [ldB_row (by rw [toS_len];exact hxl),toS_at hxl (Nat.zero_le _)]
   rcases folD_nx (b:=b) hR hxl with hnx|⟨hnx,hnx0⟩
   ·have ld:ldB (some (true,3)) (some (rowE encC 95 (nxS b R 0) 0)) 0 (x * 3)=some (.agg [.int .i64 (-1),.int .i64 0,.bool false]):=by
     rw [ldB_rowE (E:=encC) (z:=3) (nxS_at hxl (Nat.zero_le _)) rfl,hnx];rfl
    obtain ⟨w2,H2,e2,rfl,x2,ll2,ov2,go2,gf2,hO2⟩:=ih (folD b R x).to H ov out (by omega) ht.2 xH go gf hO (by omega)
    have ep:pthL b R (n+1) x=pthL b R n (folD b R x).to:=by rw [pthL,if_neg hxL,hnx];rfl
    unfold cslB at g2
    unfold cutB noC at g4
    unfold islB at g5
    have gf':=gf
    unfold onB onV at gf'
    unfold onV at e2
    refine ret_raw func133 rfl (by kernel_rfl) ?_
    have hsp:=@Nat.succ_ne_zero;repeat' (first|simp (disch:=first|exact dqb|fail) only [go_sem,↓reduceIte,hsp,g1,gd,dL,t1,g2,g3,g4,g5,g6,ld]|refine WP_drw ?_|refine cnd_intro (fun hsp=>?_) fun hsp=>?_)
    refine WPS_go ?_
    refine WP_wild [] (by kernel_rfl) (by kernel_rfl) (by kernel_rfl) trivial fun K hK=>?_
    iterate 6
     rw [TRS_cons]
     refine ⟨by first|(simp (disch:=first|exact dqb|fail) only [go_sem,↓reduceIte,gf',g5,g6,tb0,e2,ldsQ_cons,ldsQ_nil,grdQ_cons,grdQ_nil,if_true,Nat.reduceLeDiff];done)|exact trivial,?_⟩
     simp (disch:=first|exact dqb|fail) only [go_sem,↓reduceIte,gf',g5,g6,tb0,e2]
    rw [TRS_nil]
    refine ⟨by first|(simp (disch:=first|exact dqb|fail) only [go_sem,↓reduceIte,gf',g5,g6,tb0,e2,ldsQ_cons,ldsQ_nil,grdQ_cons,grdQ_nil,if_true,Nat.reduceLeDiff];done)|exact trivial,?_⟩
    subst hK
    have hsp:=@Nat.succ_ne_zero;repeat' (first|simp (disch:=first|exact dqb|fail) only [go_sem,↓reduceIte,hsp]|refine WP_drw ?_|refine cnd_intro (fun hsp=>?_) fun hsp=>?_)
    exact ⟨x2,ll2,ov2,go2,gf2,by rw [ep];exact hO2⟩
   ·obtain ⟨c,ec⟩:∃ c,c=(folD b R x).nx:=⟨_,rfl⟩
    rw [← ec] at hnx hnx0
    have ld:ldB (some (true,3)) (some (rowE encC 95 (nxS b R 0) 0)) 0 (x * 3)=some (.agg [.int .i64 c.w,.int .i64 c.f,.bool c.j]):=by
     rw [ldB_rowE (E:=encC) (z:=3) (nxS_at hxl (Nat.zero_le _)) rfl,← ec];rfl
    have tne:(¬ (c.w=-1∧c.f=0∧c.j=false))=True:=eq_true fun q=>hnx q.1
    obtain ⟨H1,eH1⟩:∃ H1,H1=H++[rowE encC 95 [c] 0]:=⟨_,rfl⟩
    have x1:Ext H H1:=by rw [eH1];exact .app .refl
    have bs1:=fun lit=>bsC1 (lit:=lit) (H:=H) (c:=c)
    rw [← eH1] at bs1
    have hl1:=x1.len
    obtain ⟨ov1,H2,ea,hO2,ll2,ex2,oo2,kk2⟩:=(hO.ext x1).appendRX (P:=prog) (x:=.slice (some ⟨H.length,0,0⟩) 1 1) (m:=[c]) (base:=base) (t:=41) (Rows.own (by rw [eH1];exact get_eq rfl) rfl (by simp)) Fc.el41 encC_sc (by omega) (by omega) (by simp) (by simp;omega)
    have xH2:=ex2 H0 (by omega) (xH.trans x1)
    have go2:H2[ou]?=some (cslB ov):=KeepO.box (E:=encC) (e:=95) kk2 (x1.get go)
    have gf2:H2[ou+1]?=some (onB (onV d nx no ou (ou+1) tb)):=KeepO.box (E:=encC) (e:=95) kk2 (x1.get gf)
    obtain ⟨H3,eH3⟩:∃ H3,H3=H2.set ou (cslB ov1):=⟨_,rfl⟩
    have l3':H3.length=H2.length:=by rw [eH3,List.length_set]
    have xH3:Ext H0 H3:=by rw [eH3];exact xH2.set (by omega)
    have go3:H3[ou]?=some (cslB ov1):=by rw [eH3,List.getElem?_set_self (by omega)]
    have gf3:H3[ou+1]?=some (onB (onV d nx no ou (ou+1) tb)):=by rw [eH3,List.getElem?_set_ne (by omega)];exact gf2
    have hO3:Own encC 95 (ou+2) H3 ov1 (out++[c]):=by rw [eH3];exact hO2.set (by omega)
    obtain ⟨w4,H4,e4,rfl,x4,ll4,ov4,go4,gf4,hO4⟩:=ih (folD b R x).to H3 ov1 (out++[c]) (by omega) ht.2 xH3 go3 gf3 hO3 (by simp;omega)
    have ep:pthL b R (n+1) x=[c]++pthL b R n (folD b R x).to:=by rw [pthL,if_neg hxL,← ec,if_neg hnx]
    have g23:=xH3.get hC.tb
    have g63:=xH3.get hC.r2
    have iT3:=ints_rowB g63 (toS_small hR) toS_len.symm
    have ger:H1[r1]?=some (rowE encC 95 (nxS b R 0) 0):=x1.get g3
    have go':=go
    have go2':=go2
    have gf3':=gf3
    unfold cslB at g2 go' go2' eH3
    unfold cutB noC at g4
    unfold islB at g5 g23
    unfold onB onV at gf3'
    unfold onV at e4
    refine ret_raw func133 rfl (by kernel_rfl) ?_
    have hsp:=@Nat.succ_ne_zero;repeat' (first|simp (disch:=first|exact dqb|fail) only [go_sem,↓reduceIte,hsp,g1,gd,dL,t1,g2,g3,g4,g5,g6,ld,tne,go',bs1,ea,go2',← eH3]|refine WP_drw ?_|refine cnd_intro (fun hsp=>?_) fun hsp=>?_)
    refine WPS_go ?_
    refine WP_wild [] (by kernel_rfl) (by kernel_rfl) (by kernel_rfl) trivial fun K hK=>?_
    iterate 6
     rw [TRS_cons]
     refine ⟨by first|(simp (disch:=first|exact dqb|fail) only [go_sem,↓reduceIte,gf3',g23,g63,tb0,e4,ldsQ_cons,ldsQ_nil,grdQ_cons,grdQ_nil,if_true,Nat.reduceLeDiff];done)|exact trivial,?_⟩
     simp (disch:=first|exact dqb|fail) only [go_sem,↓reduceIte,gf3',g23,g63,tb0,e4]
    rw [TRS_nil]
    refine ⟨by first|(simp (disch:=first|exact dqb|fail) only [go_sem,↓reduceIte,gf3',g23,g63,tb0,e4,ldsQ_cons,ldsQ_nil,grdQ_cons,grdQ_nil,if_true,Nat.reduceLeDiff];done)|exact trivial,?_⟩
    subst hK
    have hsp:=@Nat.succ_ne_zero;repeat' (first|simp (disch:=first|exact dqb|fail) only [go_sem,↓reduceIte,hsp]|refine WP_drw ?_|refine cnd_intro (fun hsp=>?_) fun hsp=>?_)
    exact ⟨x4,by omega,ov4,go4,gf4,by rw [ep,← List.append_assoc];exact hO4⟩
end Go.AM
