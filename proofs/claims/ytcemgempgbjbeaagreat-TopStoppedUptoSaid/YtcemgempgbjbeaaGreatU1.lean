/-
  Operations that leave memory as it is: what the abstract machine makes of them stands to what the model makes of them.
-/
import Derived.Test.YtcemgempgbjbeaaGreatU0
set_option linter.unusedSimpArgs false
set_option linter.unusedVariables false
namespace Go.AM
section
variable {P:Program} {μ:Mu} {h:Heap} {w:World}
theorem run_underlying' {t:TypeId} {d:TypeDesc} (hd:P.underlying t=some d):(underlying t).run P w=.ok d w:=by simp [underlying,hd]
theorem run_typeInfo' {t:TypeId} {i:TypeInfo} (hi:P.info? t=some i):(typeInfo t).run P w=.ok i w:=by simp [typeInfo,hi]
theorem run_sizeOf' {t:TypeId} {i:TypeInfo} (hi:P.info? t=some i):(sizeOf t).run P w=.ok i.size w:=by simp [sizeOf,run_typeInfo' hi]
theorem run_isAgg' {t:TypeId} {d:TypeDesc} (hd:P.underlying t=some d):(isAgg t).run P w=.ok (isAggD d) w:=by
 simp only [isAgg,Sem.run_bind,run_underlying' hd,Result.andThen_ok]
 cases d<;>rfl
theorem tyA_inv {t:TypeId} {q:Bool × Nat} (ht:tyA P t=some q):∃ d i,P.underlying t=some d∧P.info? t=some i∧q=(isAggD d,i.size):=by
 unfold tyA at ht
 split at ht
 ·rename_i d i hd hi;simp at ht;exact ⟨d,i,hd,hi,ht.symm⟩
 ·cases ht
theorem addr_add (b o n:Nat):(⟨b,o,.none⟩:Addr).add n=⟨b,o+n,.none⟩:=by
 unfold Addr.add;split
 ·rename_i h;subst h;rfl
 ·rfl
theorem cellsAt_inv (H:HRel P μ h w) {id ver:Nat} {c:List AVal} {L:Loc} (hc:cellsAt h id ver=some c) (hL:μ.loc id ver=some L) :
  ∃ C T fz e row ro,h[id]?=some ⟨.cells c e row ro,ver⟩∧w.heap[L.blk]?=some (.cells C T fz)∧c.length≤L.size∧L.base+L.size≤C.size ∧
   (∀ (i:Nat) (x:AVal) (y:Value),c[i]?=some x→C[L.base+i]?=some y→VR μ x y):=by
 unfold cellsAt at hc
 split at hc
 ·rename_i c' e row ro v hb
  split at hc
  ·rename_i hv;subst hv;simp at hc;subst hc
   obtain ⟨C,T,fz,h1,h2,h3,h4,_⟩:=H.blk id _ L hb hL
   exact ⟨C,T,fz,e,row,ro,hb,h1,h2,h3,h4⟩
  ·cases hc
 ·cases hc
theorem loadN_inv (H:HRel P μ h w) {r:ARef} {n:Nat} {cs:List AVal} {L:Loc} (hl:loadN h r n=some cs) (hL:μ.loc r.id r.ver=some L) :
  cs.length=n∧∃ V:List Value,VRs μ cs V∧V.length=n∧∀ j v,V[j]?=some v→w.cell? ((⟨L.blk,L.base+r.off,.none⟩:Addr).add j)=some v:=by
 unfold loadN at hl
 split at hl
 ·rename_i c hc
  split at hl
  ·rename_i hlen
   simp at hl
   obtain ⟨C,T,fz,e,row,ro,hb,h1,h2,h3,h4⟩:=cellsAt_inv H hc hL
   have hcs:cs.length=n:=by rw [← hl];simp;omega
   refine ⟨hcs,(C.toList.drop (L.base+r.off)).take n,⟨by simp;omega,?_⟩,by simp;omega,?_⟩
   ·intro i x y hx hy
    rw [← hl] at hx
    simp only [List.getElem?_take,List.getElem?_drop] at hx hy
    split at hx
    ·rename_i hi
     rw [if_pos hi] at hy
     refine h4 _ x y hx ?_
     rw [← Nat.add_assoc];simpa using hy
    ·cases hx
   ·intro j v hv
    simp only [List.getElem?_take,List.getElem?_drop] at hv
    split at hv
    ·rw [addr_add]
     simp only [World.cell?,h1]
     simpa using hv
    ·cases hv
  ·cases hl
 ·cases hl
theorem loadA_sound (H:HRel P μ h w) {r:ARef} {t:TypeId} {v:AVal} {L:Loc} (hl:loadA P h t r=some v) (hL:μ.loc r.id r.ver=some L) :
  ∃ V,(loadVar t ⟨L.blk,L.base+r.off,.none⟩).run P w=.ok V w∧VR μ v V:=by
 unfold loadA at hl
 split at hl
 ·rename_i q z ht
  obtain ⟨d,i,hd,hi,hq⟩:=tyA_inv ht
  simp at hq
  obtain ⟨rfl,rfl⟩:=hq
  cases hload:loadN h r (if isAggD d=true then i.size else 1) with
  | none=>simp [hload] at hl
  | some cs =>
   simp only [hload,Option.bind_some,mkVal] at hl
   obtain ⟨hlen,V,hV,hVl,hcell⟩:=loadN_inv H hload hL
   simp only [loadVar,Sem.run_bind,run_isAgg' hd,Result.andThen_ok]
   cases hagg:isAggD d with
   | true =>
    simp only [hagg,if_true] at hl hVl hlen
    simp at hl
    subst hl
    refine ⟨.agg V.toArray,?_,VRs.agg (by simpa using hV)⟩
    rw [if_pos rfl]
    simp only [Sem.run_bind,run_sizeOf' hi,Result.andThen_ok]
    rw [← hVl,run_loadCells_list w _ V hcell]
    rfl
   | false =>
    simp only [hagg,Bool.false_eq_true,if_false] at hl hVl hlen
    match cs,V,hlen,hVl,hl with
    | [x],[y],_,_,hl =>
     simp at hl;subst hl
     refine ⟨y,?_,hV.head⟩
     have:=hcell 0 y rfl
     rw [addr_add,Nat.add_zero] at this
     rw [if_neg (by simp)]
     simp [run_load,this]
 ·cases hl
theorem partQ_sound {t:TypeId} {d:TypeDesc} {i:TypeInfo} (hd:P.underlying t=some d) (hi:P.info? t=some i) {cs:List AVal} {C:Array Value} {off:Nat} {v:AVal}
  (hc:VRs μ cs C.toList) (hp:partQ (isAggD d,i.size) cs off=some v):∃ V,(part t C off).run P w=.ok V w∧VR μ v V:=by
 simp only [partQ] at hp
 simp only [part,Sem.run_bind,run_isAgg' hd,Result.andThen_ok]
 cases hagg:isAggD d with
 | true =>
  simp only [hagg,if_true] at hp
  split at hp
  ·rename_i hle
   simp at hp;subst hp
   refine ⟨.agg (C.extract off (off+i.size)),by simp [run_sizeOf' hi],VRs.agg ?_⟩
   have:=(hc.drop off).take i.size
   simpa [Array.toList_extract,List.extract_eq_take_drop] using this
  ·cases hp
 | false =>
  simp only [hagg,Bool.false_eq_true,if_false] at hp
  obtain ⟨y,hy,hv⟩:=hc.get hp
  refine ⟨y,?_,hv⟩
  have hy':C[off]?=some y:=by simpa using hy
  simp [hy']
theorem partA_sound {t:TypeId} {cs:List AVal} {C:Array Value} {off:Nat} {v:AVal} (hc:VRs μ cs C.toList) (hp:partA P t cs off=some v) :
  ∃ V,(part t C off).run P w=.ok V w∧VR μ v V:=by
 unfold partA at hp
 cases ht:tyA P t with
 | none=>simp [ht] at hp
 | some q =>
  obtain ⟨d,i,hd,hi,rfl⟩:=tyA_inv ht
  simp only [ht,Option.bind_some] at hp
  exact partQ_sound hd hi hc hp
theorem run_loop {α:Type} (body:α→Option Bool × Unit→Sem (ForInStep (Option Bool × Unit))) (g:α→Option Bool→Option Bool) (l:List α)
  (hb:∀ x ∈ l,∀ acc r,g x acc=some r→((body x (.none,())).run P w=.ok (.yield (.none,())) w∧acc=some r) ∨ ((body x (.none,())).run P w=.ok (.done (some false,())) w∧r=false)) :
  ∀ r,l.foldr g (some true)=some r→(forIn l (.none,()) body:Sem (Option Bool × Unit)).run P w=.ok (if r then (.none,()) else (some false,())) w:=by
 induction l with
 | nil=>intro r hr;simp at hr;subst hr;simp
 | cons x l ih =>
  intro r hr
  simp only [List.foldr_cons] at hr
  rw [List.forIn_cons]
  rcases hb x (by simp) _ _ hr with ⟨h1,h2⟩|⟨h1,h2⟩
  ·simp only [Sem.run_bind,h1,Result.andThen_ok]
   exact ih (fun y hy=>hb y (by simp [hy])) r h2
  ·subst h2
   simp [Sem.run_bind,h1]
theorem eqT_sound:∀ (d D:Nat) (t:TypeId) (x y:AVal) (X Y:Value) (r:Bool),d≤D→eqT P d t x y=some r→VR μ x X→VR μ y Y→(Op.equalIn D t X Y).run P w=.ok r w
 | 0,_,_,_,_,_,_,_,_,h,_,_=>by simp [eqT] at h
 | d+1,D,t,x,y,X,Y,r,hD,h,hx,hy=>by
  obtain ⟨D,rfl⟩:∃ D',D=D'+1:=⟨D-1,by omega⟩
  unfold eqT at h
  split at h
  ·rename_i a b hd
   cases hx;cases hy;simp at h;subst h
   simp [Op.equalIn,run_underlying' hd]
  ·rename_i k j a j' b hd
   cases hx;cases hy
   split at h
   ·rename_i hk;simp at h;subst h
    simp [Op.equalIn,run_underlying' hd,hk]
   ·cases h
  ·rename_i fs xs ys hd
   split at h
   ·cases h
   ·rename_i hs
    obtain ⟨A,rfl,hA⟩:=hx.agg_inv
    obtain ⟨B,rfl,hB⟩:=hy.agg_inv
    simp only [Op.equalIn,Sem.run_bind,run_underlying' hd,Result.andThen_ok,run_program,hs]
    simp only [Bool.false_eq_true,if_false]
    rw [← Array.forIn_toList,Sem.run_bind,run_loop _ _ _ ?_ r h]
    ·cases r<;>simp
    ·intro f hf acc r' hg
     split at hg
     ·rename_i hn
      left;refine ⟨?_,hg⟩
      simp [hn]
     ·rename_i hn
      split at hg
      ·rename_i a b ha hb
       obtain ⟨V,hV,hv⟩:=partA_sound (w:=w) hA ha
       obtain ⟨V',hV',hv'⟩:=partA_sound (w:=w) hB hb
       cases he:eqT P d f.type a b with
       | none=>simp [he] at hg
       | some q =>
        have ih:=eqT_sound d D f.type a b V V' q (by omega) he hv hv'
        cases q with
        | true =>
         simp only [he] at hg
         left;refine ⟨?_,hg⟩
         simp [hn,hV,hV',ih]
        | false =>
         simp [he] at hg
         right;refine ⟨?_,hg⟩
         simp [hn,hV,hV',ih]
      ·cases hg
  ·rename_i n e xs ys hd
   obtain ⟨A,rfl,hA⟩:=hx.agg_inv
   obtain ⟨B,rfl,hB⟩:=hy.agg_inv
   cases ht:tyA P e with
   | none=>simp [ht] at h
   | some q =>
    obtain ⟨d',i,hd',hi,rfl⟩:=tyA_inv ht
    simp only [ht] at h
    simp only [Op.equalIn,Sem.run_bind,run_underlying' hd,Result.andThen_ok,run_sizeOf' hi]
    rw [Std.Legacy.Range.forIn_eq_forIn_range',show (Std.Legacy.Range.size [:n])=n by simp [Std.Legacy.Range.size],← List.range_eq_range',run_loop _ _ _ ?_ r h]
    ·cases r<;>simp
    ·intro f hf acc r' hg
     split at hg
     ·rename_i a b ha hb
      obtain ⟨V,hV,hv⟩:=partQ_sound (w:=w) hd' hi hA ha
      obtain ⟨V',hV',hv'⟩:=partQ_sound (w:=w) hd' hi hB hb
      cases he:eqT P d e a b with
      | none=>simp [he] at hg
      | some q =>
       have ih:=eqT_sound d D e a b V V' q (by omega) he hv hv'
       cases q with
       | true =>
        simp only [he] at hg
        left;refine ⟨?_,hg⟩
        simp [hV,hV',ih]
       | false =>
        simp [he] at hg
        right;refine ⟨?_,hg⟩
        simp [hV,hV',ih]
     ·cases hg
  ·rename_i hd
   cases hy
   cases hx<;>simp [nilS] at h<;>subst h<;>simp [Op.equalIn,run_underlying' hd]
  ·rename_i hd
   cases hy
   cases hx<;>simp [nilP] at h<;>subst h<;>simp [Op.equalIn,run_underlying' hd]
  ·cases h
theorem run_all {α:Type} (body:α→Unit→Sem (ForInStep Unit)) (l:List α) (hb:∀ x ∈ l,(body x ()).run P w=.ok (.yield ()) w) :
  (forIn l () body:Sem Unit).run P w=.ok () w:=by
 induction l with
 | nil=>simp
 | cons x l ih =>
  rw [List.forIn_cons]
  simp only [Sem.run_bind,hb x (by simp),Result.andThen_ok]
  exact ih (fun y hy=>hb y (by simp [hy]))
theorem keyOk_sound:∀ (d D:Nat) (b:Bool) (t:TypeId) (x:AVal) (X:Value),d≤D→keyOk P d t x=true→VR μ x X→(Instr.checkKey b D t X).run P w=.ok () w
 | 0,_,_,_,_,_,_,h,_=>by simp [keyOk] at h
 | d+1,D,b,t,x,X,hD,h,hx=>by
  obtain ⟨D,rfl⟩:∃ D',D=D'+1:=⟨D-1,by omega⟩
  unfold keyOk at h
  split at h
  ·rename_i hd;simp [Instr.checkKey,run_underlying' hd]
  ·rename_i hd;simp [Instr.checkKey,run_underlying' hd]
  ·rename_i fs xs hd
   obtain ⟨A,rfl,hA⟩:=hx.agg_inv
   simp only [Instr.checkKey,Sem.run_bind,run_underlying' hd,Result.andThen_ok]
   rw [← Array.forIn_toList,run_all _ _ ?_]
   ·simp
   ·intro f hf
    have:=List.all_eq_true.1 h f hf
    by_cases hn : f.name = "_"
    ·simp [hn]
    ·simp only [hn,decide_false,Bool.false_or] at this
     split at this
     ·rename_i a ha
      obtain ⟨V,hV,hv⟩:=partA_sound (w:=w) hA ha
      have ih:=keyOk_sound d D b f.type a V (by omega) this hv
      simp [hn,hV,ih]
     ·cases this
  ·rename_i n e xs hd
   obtain ⟨A,rfl,hA⟩:=hx.agg_inv
   cases ht:tyA P e with
   | none=>simp [ht] at h
   | some q =>
    obtain ⟨d',i,hd',hi,rfl⟩:=tyA_inv ht
    simp only [ht] at h
    simp only [Instr.checkKey,Sem.run_bind,run_underlying' hd,Result.andThen_ok]
    rw [Std.Legacy.Range.forIn_eq_forIn_range',show (Std.Legacy.Range.size [:n])=n by simp [Std.Legacy.Range.size],← List.range_eq_range',run_all _ _ ?_]
    ·simp
    ·intro j hj
     have:=List.all_eq_true.1 h j hj
     split at this
     ·rename_i a ha
      obtain ⟨V,hV,hv⟩:=partQ_sound (w:=w) hd' hi hA ha
      have ih:=keyOk_sound d D b e a V (by omega) this hv
      simp [run_sizeOf' hi,hV,ih]
     ·cases this
  ·cases h
theorem sameNow_eqT {kt:TypeId} {d:Nat} {desc:TypeDesc} (hd:P.underlying kt=some desc) {x y:AVal} {X Y:Value} {r q:Bool} (h:eqT P d kt x y=some r) (hx:VR μ x X) (hy:VR μ y Y)
  (hs:Instr.sameNow desc X Y=some q):q=r:=by
 cases d with
 | zero=>simp [eqT] at h
 | succ d =>
  unfold eqT at h
  rw [hd] at h
  cases desc<;>simp [Instr.sameNow] at hs
  ·cases hx<;>cases hy<;>simp at hs h<;>(try exact hs.symm.trans h)
  ·cases hx<;>cases hy<;>simp at hs h
   obtain ⟨rfl,hs⟩:=hs
   simp at h
   exact hs.symm.trans h
  ·cases hx<;>cases hy<;>simp at hs h
theorem findNow_sound {kt:TypeId} {desc:TypeDesc} (hd:P.underlying kt=some desc) {key:AVal} {K:Value} (hk:VR μ key K) :
  ∀ (es:List (AVal × AVal)) (E:List MapEntry) (k:Nat) (r:Option Nat) (q:Option (Nat × Value)),es.length=E.length→(∀ (i:Nat) (x v:AVal) (e:MapEntry),es[i]?=some (x,v)→E[i]?=some e→VR μ x e.key∧VR μ v e.val) →
   findA P kt key es=some r→Instr.findNow desc K E k=some q→q=r.bind fun i=>(E[i]?).map fun e=>(i+k,e.val)
 | [],[],k,r,q,_,_,h,hq=>by simp [findA] at h;simp [Instr.findNow] at hq;subst h hq;rfl
 | (x,v) :: es,e :: E,k,r,q,hl,hr,h,hq=>by
  have h0:=hr 0 x v e rfl rfl
  simp only [findA] at h
  simp only [Instr.findNow] at hq
  split at h
  ·rename_i he
   simp at h;subst h
   split at hq
   ·simp at hq;subst hq;simp
   ·rename_i hs;have:=sameNow_eqT hd he hk h0.1 hs;simp at this
   ·cases hq
  ·rename_i he
   split at hq
   ·rename_i hs;have:=sameNow_eqT hd he hk h0.1 hs;simp at this
   ·cases hf:findA P kt key es with
    | none=>simp [hf] at h
    | some r' =>
     simp [hf] at h;subst h
     have ih:=findNow_sound hd hk es E (k+1) r' q (by simpa using hl) (fun i a b c ha hb=>hr (i+1) a b c (by simpa using ha) (by simpa using hb)) hf hq
     rw [ih];cases r'<;>simp [Nat.add_assoc,Nat.add_comm 1 k]
   ·cases hq
  ·cases h
theorem findAsking_sound {kt:TypeId} {key:AVal} {K:Value} (hk:VR μ key K) :
  ∀ (es:List (AVal × AVal)) (E:List MapEntry) (k:Nat) (r:Option Nat),es.length=E.length→(∀ (i:Nat) (x v:AVal) (e:MapEntry),es[i]?=some (x,v)→E[i]?=some e→VR μ x e.key∧VR μ v e.val) →
   findA P kt key es=some r→(Instr.findAsking kt K E k).run P w=.ok (r.bind fun i=>(E[i]?).map fun e=>(i+k,e.val)) w
 | [],[],k,r,_,_,h=>by simp [findA] at h;subst h;simp [Instr.findAsking]
 | (x,v) :: es,e :: E,k,r,hl,hr,h=>by
  have h0:=hr 0 x v e rfl rfl
  simp only [findA] at h
  simp only [Instr.findAsking,Sem.run_bind,Op.equal]
  split at h
  ·rename_i he
   simp at h;subst h
   rw [eqT_sound eqDepth Op.maxDepth kt key x K e.key true (by decide) he hk h0.1]
   simp
  ·rename_i he
   rw [eqT_sound eqDepth Op.maxDepth kt key x K e.key false (by decide) he hk h0.1]
   cases hf:findA P kt key es with
   | none=>simp [hf] at h
   | some r' =>
    simp [hf] at h;subst h
    simp only [Result.andThen_ok,Bool.false_eq_true,if_false]
    rw [findAsking_sound hk es E (k+1) r' (by simpa using hl) (fun i a b c ha hb=>hr (i+1) a b c (by simpa using ha) (by simpa using hb)) hf]
    cases r'<;>simp [Nat.add_assoc,Nat.add_comm 1 k]
  ·cases h
theorem findKey_sound {kt:TypeId} {key:AVal} {K:Value} (hk:VR μ key K) {es:List (AVal × AVal)} {E:Array MapEntry} {r:Option Nat} (hE:MapR μ es E) {desc:TypeDesc} (hd:P.underlying kt=some desc)
  (h:findA P kt key es=some r):(Instr.findKey kt K E.toList).run P w=.ok (r.bind fun i=>(E[i]?).map fun e=>(i,e.val)) w:=by
 have hr:∀ (i:Nat) (x v:AVal) (e:MapEntry),es[i]?=some (x,v)→E.toList[i]?=some e→VR μ x e.key∧VR μ v e.val:=fun i x v e hx he=>by
  have:=hE.2 i x v e hx (by simpa using he);exact ⟨this.1,this.2.1⟩
 simp only [Instr.findKey,Sem.run_bind,run_underlying' hd,Result.andThen_ok]
 split
 ·rename_i q hq
  have:=findNow_sound hd hk es E.toList 0 r q (by simpa using hE.1) hr h hq
  subst this
  simp
 ·have:=findAsking_sound (P:=P) (w:=w) hk es E.toList 0 r (by simpa using hE.1) hr h
  rw [this];simp
end
end Go.AM
namespace Go.AM
section
variable {P:Program} {μ:Mu} {h:Heap} {w:World}
theorem allCv_VRs:∀ (l:List Value) (z:List AVal),allCv l=some z→VRs μ z l
 | [],z,h=>by simp [allCv] at h;subst h;exact .nil
 | v :: vs,z,h=>by
  simp only [allCv] at h
  split at h
  ·rename_i a as ha has
   simp at h;subst h
   exact (allCv_VRs vs as has).cons (cv_VR ha)
  ·cases h
theorem zc_inv {t:TypeId} {z:List AVal} (hz:zc P t=some z):∃ v,(∀ w:World,(zeroValue t).run P w=.ok v w)∧VRs μ z v.cells.toList:=by
 unfold zc at hz
 cases hi:P.info? t with
 | none=>simp [hi] at hz
 | some i =>
  cases hv:i.zero with
  | none=>simp [hi,hv] at hz
  | some v =>
   simp [hi,hv] at hz
   exact ⟨v,fun w=>by simp [zeroValue,run_typeInfo' hi,hv],allCv_VRs _ _ hz⟩
theorem zvA_inv {t:TypeId} {z:AVal} (hz:zvA P t=some z):∃ v,(zeroValue t).run P w=.ok v w∧VR μ z v:=by
 unfold zvA at hz
 cases hi:P.info? t with
 | none=>simp [hi] at hz
 | some i =>
  cases hv:i.zero with
  | none=>simp [hi,hv] at hz
  | some v =>
   refine ⟨v,by simp [zeroValue,run_typeInfo' hi,hv],?_⟩
   simp only [hi,Option.bind_some,hv] at hz
   split at hz
   ·rename_i cs hcs
    simp at hcs;subst hcs
    cases ha:allCv cs.toList with
    | none=>simp [ha] at hz
    | some as=>simp [ha] at hz;subst hz;exact VRs.agg (allCv_VRs _ _ ha)
   ·rename_i u _ hu
    simp at hu;subst hu
    exact cv_VR hz
   ·cases hz
theorem intBin_sound {op:BinOp} {k:IntKind} {a b:Int} {v:AVal} (hb:intBin op k a b=some v) (t:TypeId) (hs:isShift op=false) :
  ∃ V,(binOp op t (.int k a) (.int k b)).run P w=.ok V w∧VR μ v V:=by
 cases op<;>simp [intBin,isShift] at hb hs<;>(try subst hb)<;>simp [binOp,Op.intArith,Op.intBits,Op.intCmp,VR.int,VR.bool]
 ·obtain ⟨h0,rfl⟩:=hb;simp [Op.intDiv,h0,VR.int]
 ·obtain ⟨h0,rfl⟩:=hb;simp [Op.intDiv,h0,VR.int]
 all_goals first|exact .int _ _|exact .bool _|skip
theorem shiftA_sound {op:BinOp} {k k':IntKind} {a b:Int} {v:AVal} (hb:shiftA op k a b=some v) (t:TypeId) :
  ∃ V,(binOp op t (.int k a) (.int k' b)).run P w=.ok V w∧VR μ v V:=by
 unfold shiftA at hb
 split at hb
 ·cases hb
 ·rename_i h0
  cases op<;>simp at hb<;>subst hb<;>simp [binOp,Op.shift,h0]<;>exact .int _ _
theorem eqGuard_none (op:BinOp) (t:TypeId) (x y:Operand) (a b:Value) (hab:(∀ A,a ≠ .agg A)∧a ≠ .nilIface):(eqGuard op t x y a b).run P w=.ok () w:=by
 unfold eqGuard
 cases op<;>simp<;>(split<;>simp_all)
theorem eqGuard_agg (op:BinOp) (t:TypeId) (x y:Operand) (A B:Array Value) (hg:P.eqGuardType P.depth t=false):(eqGuard op t x y (.agg A) (.agg B)).run P w=.ok () w:=by
 unfold eqGuard
 cases op<;>simp [hg]
theorem binOp_eql {t:TypeId} {x y:AVal} {X Y:Value} {r:Bool} (hx:VR μ x X) (hy:VR μ y Y) (h:eqT P eqDepth t x y=some r) (hi:∀ k a k' b,¬ (X=.int k a∧Y=.int k' b)) (hs:∀ a b,¬ (X=.string a∧Y=.string b))
  (hf:∀ k a k' b,¬ (X=.float k a∧Y=.float k' b)) (hc:∀ k a b k' c d,¬ (X=.complex k a b∧Y=.complex k' c d)) :
  (binOp .eql t X Y).run P w=.ok (.bool r) w∧(binOp .neq t X Y).run P w=.ok (.bool !r) w:=by
 have:=eqT_sound (w:=w) eqDepth Op.maxDepth t x y X Y r (by decide) h hx hy
 constructor
 ·unfold binOp
  split<;>first|(exfalso;first|exact hi _ _ _ _ ⟨rfl,rfl⟩|exact hs _ _ ⟨rfl,rfl⟩|exact hf _ _ _ _ ⟨rfl,rfl⟩|exact hc _ _ _ _ _ _ ⟨rfl,rfl⟩)|(simp [Op.equal,this];done)|simp_all
 ·unfold binOp
  split<;>first|(exfalso;first|exact hi _ _ _ _ ⟨rfl,rfl⟩|exact hs _ _ ⟨rfl,rfl⟩|exact hf _ _ _ _ ⟨rfl,rfl⟩|exact hc _ _ _ _ _ _ ⟨rfl,rfl⟩)|(simp [Op.equal,this];done)|simp_all
theorem binA_sound {op:BinOp} {t:TypeId} {x y:Operand} {a b:AVal} {A B:Value} {v:AVal} (hv:binA P op t a b=some v) (ha:VR μ a A) (hb:VR μ b B) :
  ∃ V,(do eqGuard op t x y A B;binOp op t A B:Sem Value).run P w=.ok V w∧VR μ v V:=by
 unfold binA at hv
 split at hv
 ·rename_i n m
  cases ha
  cases hb with
  | atl _ N hN =>
   split at hv
   ·split at hv
    ·rename_i hle
     cases hv
     simp only [Sem.run_bind,eqGuard_none .gtr t x y (.int .i64 n) (.int .i64 N) ⟨by simp,by simp⟩,Result.andThen_ok]
     have:=intBin_sound (P:=P) (w:=w) (μ:=μ) (op:=.gtr) (k:=.i64) (a:=n) (b:=N) (v:=.bool (decide (n > N))) rfl t (by decide)
     rw [show decide (n > N)=false from decide_eq_false (by omega)] at this
     exact this
    ·cases hv
   ·cases hv
 ·rename_i k n k' m
  cases ha;cases hb
  simp only [Sem.run_bind,eqGuard_none op t x y (.int k n) (.int k' m) ⟨by simp,by simp⟩,Result.andThen_ok]
  split at hv
  ·exact shiftA_sound hv t
  ·rename_i hs
   split at hv
   ·rename_i hk;subst hk;exact intBin_sound hv t (by simpa using hs)
   ·cases hv
 ·rename_i p q
  cases ha;cases hb
  simp only [Sem.run_bind,eqGuard_none op t x y (.bool p) (.bool q) ⟨by simp,by simp⟩,Result.andThen_ok]
  split at hv
  ·cases he:eqT P eqDepth t (.bool p) (.bool q) with
   | none=>simp [he] at hv
   | some r=>simp [he] at hv;subst hv;exact ⟨_,(binOp_eql (w:=w) (μ:=μ) (.bool p) (.bool q) he (by simp) (by simp) (by simp) (by simp)).1,.bool _⟩
  ·cases he:eqT P eqDepth t (.bool p) (.bool q) with
   | none=>simp [he] at hv
   | some r=>simp [he] at hv;subst hv;exact ⟨_,(binOp_eql (w:=w) (μ:=μ) (.bool p) (.bool q) he (by simp) (by simp) (by simp) (by simp)).2,.bool _⟩
  ·cases hv
 ·rename_i p q
  split at hv
  ·cases hv
  ·rename_i hg
   obtain ⟨A,rfl,hA⟩:=ha.agg_inv
   obtain ⟨B,rfl,hB⟩:=hb.agg_inv
   simp only [Sem.run_bind,eqGuard_agg op t x y A B (by simpa using hg),Result.andThen_ok]
   split at hv
   ·cases he:eqT P eqDepth t (.agg p) (.agg q) with
    | none=>simp [he] at hv
    | some r=>simp [he] at hv;subst hv;exact ⟨_,(binOp_eql (w:=w) ha hb he (by simp) (by simp) (by simp) (by simp)).1,.bool _⟩
   ·cases he:eqT P eqDepth t (.agg p) (.agg q) with
    | none=>simp [he] at hv
    | some r=>simp [he] at hv;subst hv;exact ⟨_,(binOp_eql (w:=w) ha hb he (by simp) (by simp) (by simp) (by simp)).2,.bool _⟩
   ·cases hv
 ·rename_i hI hB hAg
  have nog:∀ r,eqT P eqDepth t a b=some r→(eqGuard op t x y A B).run P w=.ok () w∧(∀ k a k' b,¬ (A=.int k a∧B=.int k' b))∧(∀ a b,¬ (A=.string a∧B=.string b)) ∧
    (∀ k a k' b,¬ (A=.float k a∧B=.float k' b))∧(∀ k a b k' c d,¬ (A=.complex k a b∧B=.complex k' c d)):=by
   intro r he
   have:(∃ u l c,B=.slice u l c) ∨ (∃ u,B=.pointer u):=by
    simp only [eqDepth] at he
    unfold eqT at he
    split at he
    ·exact (hB _ _ rfl rfl).elim
    ·exact (hI _ _ _ _ rfl rfl).elim
    ·exact (hAg _ _ rfl rfl).elim
    ·exact (hAg _ _ rfl rfl).elim
    ·cases hb<;>exact .inl ⟨_,_,_,rfl⟩
    ·cases hb<;>exact .inr ⟨_,rfl⟩
    ·cases he
   rcases this with ⟨u,l,c,rfl⟩|⟨u,rfl⟩
   ·refine ⟨?_,by simp,by simp,by simp,by simp⟩
    unfold eqGuard;cases op<;>simp<;>(split<;>simp_all)
   ·refine ⟨?_,by simp,by simp,by simp,by simp⟩
    unfold eqGuard;cases op<;>simp<;>(split<;>simp_all)
  split at hv
  ·cases he:eqT P eqDepth t a b with
   | none=>simp [he] at hv
   | some r =>
    simp [he] at hv;subst hv
    obtain ⟨h1,h2,h3,h4,h5⟩:=nog r he
    simp only [Sem.run_bind,h1,Result.andThen_ok]
    exact ⟨_,(binOp_eql (w:=w) ha hb he h2 h3 h4 h5).1,.bool _⟩
  ·cases he:eqT P eqDepth t a b with
   | none=>simp [he] at hv
   | some r =>
    simp [he] at hv;subst hv
    obtain ⟨h1,h2,h3,h4,h5⟩:=nog r he
    simp only [Sem.run_bind,h1,Result.andThen_ok]
    exact ⟨_,(binOp_eql (w:=w) ha hb he h2 h3 h4 h5).2,.bool _⟩
  ·cases hv
theorem unA_sound {op:UnOp} {a:AVal} {A:Value} {v:AVal} (hv:unA op a=some v) (ha:VR μ a A):∃ V,(Op.unary op A).run P w=.ok V w∧VR μ v V:=by
 unfold unA at hv
 split at hv
 ·cases ha
  split at hv
  ·simp at hv;subst hv;exact ⟨_,by simp [Op.unary,Op.intArith],.int _ _⟩
  ·simp [intBin] at hv;subst hv;exact ⟨_,by simp [Op.unary,Op.intBits],.int _ _⟩
  ·cases hv
 ·cases ha
  split at hv
  ·simp at hv;subst hv;exact ⟨_,by simp [Op.unary],.bool _⟩
  ·cases hv
 ·cases hv
theorem boundA_sound {v:AVal} {V:Value} {hi:Nat} {code:BoundsCode} {n:Nat} {hi':Nat} (hb:boundA v hi=some n) (hv:VR μ v V) (hle:hi≤hi'):n≤hi∧(Instr.sliceBound V hi' code).run P w=.ok n w:=by
 unfold boundA at hb
 split at hb
 ·cases hv
  split at hb
  ·rename_i h1;simp at hb;subst hb
   refine ⟨by omega,?_⟩
   rename_i i
   simp only [Instr.sliceBound,asIntOf,Sem.run_bind,Sem.run_pure,Result.andThen_ok]
   rw [if_pos ⟨h1.1,by omega⟩];rfl
  ·cases hb
 ·cases hb
def VRo (μ:Mu):Option AVal→Option Value→Prop
 | .none,.none=>True
 | some x,some X=>VR μ x X
 | _,_=>False
theorem sliceBounds_sound {b:Bool} {len kcap C:Nat} {lo hi mx:Option AVal} {LO HI MX:Option Value} {m h' l:Nat} (hlo:VRo μ lo LO) (hhi:VRo μ hi HI) (hmx:VRo μ mx MX)
  (hm:optB mx kcap kcap=some m) (hh:optB hi m len=some h') (hl:optB lo h' 0=some l) (hlen:len≤kcap) (hC:kcap≤C) (hmh:mx ≠ .none→hi ≠ .none) :
  l≤h'∧h'≤m∧m≤kcap∧∃ M,(Instr.sliceBounds b len C LO HI MX).run P w=.ok (l,h',M) w∧m≤M∧M≤C∧(M=m ∨ (M=C∧m=kcap)):=by
 have lo':l≤h'∧((LO=.none∧l=0) ∨ ∃ V,LO=some V∧∀ code,(Instr.sliceBound V h' code).run P w=.ok l w):=by
  cases lo with
  | none=>cases LO with
   | none=>simp [optB] at hl;subst hl;exact ⟨Nat.zero_le _,.inl ⟨rfl,rfl⟩⟩
   | some V=>exact hlo.elim
  | some v=>cases LO with
   | none=>exact hlo.elim
   | some V=>exact ⟨(boundA_sound (w:=w) (P:=P) (code:=.sliceB) hl hlo (Nat.le_refl _)).1,.inr ⟨V,rfl,fun code=>(boundA_sound hl hlo (Nat.le_refl _)).2⟩⟩
 cases mx with
 | none =>
  cases MX with
  | some V=>exact hmx.elim
  | none =>
   simp [optB] at hm;subst hm
   cases hi with
   | none=>cases HI with
    | some V=>exact hhi.elim
    | none =>
     simp [optB] at hh;subst hh
     refine ⟨lo'.1,hlen,Nat.le_refl _,C,?_,hC,Nat.le_refl _,.inr ⟨rfl,rfl⟩⟩
     simp only [Instr.sliceBounds,Sem.run_bind,Sem.run_pure,Result.andThen_ok,Option.isSome_none,Bool.false_eq_true,if_false]
     rcases lo'.2 with ⟨rfl,rfl⟩|⟨V',rfl,hV'⟩<;>simp [*]
   | some v=>cases HI with
    | none=>exact hhi.elim
    | some V =>
     have h1:=boundA_sound (w:=w) (P:=P) (code:=if b=true then .sliceAcap else .sliceAlen) (hi':=C) hh hhi hC
     refine ⟨lo'.1,h1.1,Nat.le_refl _,C,?_,hC,Nat.le_refl _,.inr ⟨rfl,rfl⟩⟩
     simp only [Instr.sliceBounds,Sem.run_bind,Sem.run_pure,Result.andThen_ok,Option.isSome_none,Bool.false_eq_true,if_false,h1.2]
     rcases lo'.2 with ⟨rfl,rfl⟩|⟨V',rfl,hV'⟩<;>simp [*]
 | some mv =>
  cases MX with
  | none=>exact hmx.elim
  | some MV =>
   have h0:=boundA_sound (w:=w) (P:=P) (code:=if b=true then .slice3Acap else .slice3Alen) (hi':=C) hm hmx hC
   cases hi with
   | none=>exact absurd rfl (hmh (by simp))
   | some v=>cases HI with
    | none=>exact hhi.elim
    | some V =>
     have h1:=boundA_sound (w:=w) (P:=P) (code:=.slice3B) (hi':=m) hh hhi (Nat.le_refl _)
     refine ⟨lo'.1,h1.1,h0.1,m,?_,Nat.le_refl _,by omega,.inl rfl⟩
     simp only [Instr.sliceBounds,Sem.run_bind,Result.andThen_ok,Option.isSome_some,if_true,h0.2,h1.2]
     rcases lo'.2 with ⟨rfl,rfl⟩|⟨V',rfl,hV'⟩<;>simp [*]
end
end Go.AM
namespace Go.AM
section
variable {P:Program} {μ:Mu} {h:Heap} {w:World}
theorem elS_inv {t e:TypeId} {z:Nat} {zs:List AVal} (ht:elS P t=some (e,z,zs)) :
  ∃ i,P.underlying t=some (.slice e)∧P.info? e=some i∧i.size=z∧zc P e=some zs∧i.bytes≤2 ^ 12∧0<z∧zs.length=z:=by
 unfold elS at ht
 split at ht
 ·rename_i e' hd
  split at ht
  ·rename_i i z' hi hz
   split at ht
   ·rename_i hc
    simp at ht
    obtain ⟨rfl,rfl,rfl⟩:=ht
    exact ⟨i,hd,hi,rfl,hz,hc.1,hc.2.1,hc.2.2⟩
   ·cases ht
  ·cases ht
 ·cases ht
theorem arT_inv {t:TypeId} {n:Nat} {q:Bool × Nat} (ht:arT P t=some (n,q)) :
  ∃ e d i,P.underlying t=some (.array n e)∧P.underlying e=some d∧P.info? e=some i∧q=(isAggD d,i.size):=by
 unfold arT at ht
 split at ht
 ·rename_i n' e hd
  cases hq:tyA P e with
  | none=>simp [hq] at ht
  | some q' =>
   obtain ⟨d,i,hd',hi,rfl⟩:=tyA_inv hq
   simp [hq] at ht
   obtain ⟨rfl,rfl⟩:=ht
   exact ⟨e,d,i,hd,hd',hi,rfl⟩
 ·cases ht
theorem fld_inv {t:TypeId} {f off:Nat} {q:Bool × Nat} (ht:fld P t f=some (off,q)) :
  ∃ fs F d i,P.underlying t=some (.struct fs)∧fs[f]?=some F∧F.offset=off∧P.underlying F.type=some d∧P.info? F.type=some i∧q=(isAggD d,i.size):=by
 unfold fld at ht
 split at ht
 ·rename_i fs hd
  split at ht
  ·rename_i F hF
   cases hq:tyA P F.type with
   | none=>simp [hq] at ht
   | some q' =>
    obtain ⟨d,i,hd',hi,rfl⟩:=tyA_inv hq
    simp [hq] at ht
    obtain ⟨rfl,rfl⟩:=ht
    exact ⟨fs,F,d,i,hd,hF,rfl,hd',hi,rfl⟩
  ·cases ht
 ·cases ht
theorem hL_add {r:ARef} {L:Loc} (hL:μ.loc r.id r.ver=some L) (n:Nat):VR μ (.ptr (some (r.add n))) (.pointer (some ((⟨L.blk,L.base+r.off,.none⟩:Addr).add n))):=by
 rw [addr_add]
 have:=VR.ptr (μ:=μ) (r.add n) L hL
 simpa [ARef.add,Nat.add_assoc] using this
theorem sliceA_sound {t:TypeId} {x:AVal} {X:Value} {lo hi mx:Option AVal} {LO HI MX:Option Value} {v:AVal} (hv:sliceA P t x lo hi mx=some v) (hx:VR μ x X)
  (hlo:VRo μ lo LO) (hhi:VRo μ hi HI) (hmx:VRo μ mx MX) (hmh:mx ≠ .none→hi ≠ .none):∃ V,(Instr.sliceAt t X LO HI MX).run P w=.ok V w∧VR μ v V:=by
 unfold sliceA at hv
 split at hv
 ·rename_i n q z ha
  obtain ⟨e,d,i,hd,hd',hi',hq⟩:=arT_inv ha
  simp at hq
  obtain ⟨rfl,rfl⟩:=hq
  split at hv
  ·rename_i r
   cases MX with
   | some _=>exact hmx.elim
   | none =>
   cases hx with
   | ptr _ L hL =>
    split at hv
    ·cases hv
    ·rename_i hh hhe
     split at hv
     ·cases hv
     ·rename_i l hle
      simp at hv;subst hv
      obtain ⟨h1,h2,h3,M,hM,h4,h5,h6⟩:=sliceBounds_sound (P:=P) (w:=w) (μ:=μ) (b:=false) (len:=n) (kcap:=n) (C:=n) (m:=n) (MX:=.none) (mx:=.none) hlo hhi trivial rfl hhe hle (Nat.le_refl _) (Nat.le_refl _) (by simp)
      have hMn:M=n:=by omega
      subst hMn
      simp only [Instr.sliceAt,Sem.run_bind,run_underlying' hd,Result.andThen_ok,Instr.sureAddr,Sem.run_pure,hM,run_sizeOf' hi']
      refine ⟨_,rfl,?_⟩
      by_cases hml:M=l
      ·have e1:hh-l=0:=by omega
       have e2:M-l=0:=by omega
       rw [e1,e2,if_pos hml]
       exact .slice0 _ _ _
      ·rw [if_neg hml,addr_add]
       have:=VR.slice (μ:=μ) (r.add (l * i.size)) L (hh-l) (M-l) (M-l) hL (by omega) (by omega) (Nat.le_refl _)
       simp only [ARef.add] at this
       rw [Nat.add_assoc]
       exact this fun _=>.inl (by first|trivial|rfl)
  ·cases hv
 ·rename_i ha
  split at hv
  ·rename_i e z zs a len kcap he
   obtain ⟨i,hd,hi',rfl,hz,hb,h0,hzl⟩:=elS_inv he
   split at hv
   ·cases hv
   ·rename_i m hme
    split at hv
    ·cases hv
    ·rename_i hh hhe
     split at hv
     ·cases hv
     ·rename_i l hle
      simp at hv;subst hv
      have hat:∀ X,(Instr.sliceAt t X LO HI MX).run P w=(Instr.slice t X LO HI MX).run P w:=fun X=>by simp [Instr.sliceAt,run_underlying' hd]
      rw [hat]
      cases hx with
      | sliceN =>
       obtain ⟨h1,h2,h3,M,hM,h4,h5,h6⟩:=sliceBounds_sound (P:=P) (w:=w) (μ:=μ) (b:=true) (len:=0) (kcap:=0) (C:=0) hlo hhi hmx hme hhe hle (Nat.le_refl _) (Nat.le_refl _) hmh
       simp only [Instr.slice,Sem.run_bind,run_underlying' hd,Result.andThen_ok,hM,run_sizeOf' hi',Sem.run_pure]
       refine ⟨_,rfl,?_⟩
       have e1:hh-l=0:=by omega
       have e2:M-l=0:=by omega
       have e3:m-l=0:=by omega
       rw [e1,e2,e3]
       simp only [Option.map_none,ite_self]
       exact .sliceN
      | slice0 r a C =>
       obtain ⟨h1,h2,h3,M,hM,h4,h5,h6⟩:=sliceBounds_sound (P:=P) (w:=w) (μ:=μ) (b:=true) (len:=0) (kcap:=0) (C:=C) hlo hhi hmx hme hhe hle (Nat.le_refl _) (Nat.zero_le _) hmh
       simp only [Instr.slice,Sem.run_bind,run_underlying' hd,Result.andThen_ok,hM,run_sizeOf' hi',Sem.run_pure]
       refine ⟨_,rfl,?_⟩
       have e1:hh-l=0:=by omega
       have e3:m-l=0:=by omega
       rw [e1,e3]
       simp only [Option.map_some]
       split<;>exact .slice0 _ _ _
      | slice r L _ _ C hL hk hn hc hl =>
       obtain ⟨h1,h2,h3,M,hM,h4,h5,h6⟩:=sliceBounds_sound (P:=P) (w:=w) (μ:=μ) (b:=true) (len:=len) (kcap:=kcap) (C:=C) hlo hhi hmx hme hhe hle hn hc hmh
       simp only [Instr.slice,Sem.run_bind,run_underlying' hd,Result.andThen_ok,hM,run_sizeOf' hi',Sem.run_pure]
       refine ⟨_,rfl,?_⟩
       by_cases hml:m=l
       ·have e1:hh-l=0:=by omega
        have e3:m-l=0:=by omega
        rw [e1,e3]
        simp only [Option.map_some]
        split<;>exact .slice0 _ _ _
       ·rw [if_neg (by omega)]
        simp only [Option.map_some,addr_add]
        have:=VR.slice (μ:=μ) (r.add (l * i.size)) L (hh-l) (m-l) (M-l) hL (by omega) (by omega) (by omega)
        simp only [ARef.add] at this
        rw [Nat.add_assoc]
        refine this fun hoff=>?_
        have hl0:l=0:=by
         rcases Nat.eq_zero_of_add_eq_zero_left hoff with h
         rcases Nat.mul_eq_zero.1 h with h|h
         ·exact h
         ·omega
        subst hl0
        rcases h6 with h6|⟨h6,h7⟩
        ·exact .inl (by omega)
        ·rcases hl (by omega) with hl|hl
         ·exact .inl (by omega)
         ·exact .inr ⟨by simpa [h6] using hl.1,by have:=hl.2;omega⟩
  ·rename_i q he
   obtain ⟨e,z,zs⟩:=q
   obtain ⟨i,hd,hi',rfl,hz,hb,h0,hzl⟩:=elS_inv he
   have hat:∀ X,(Instr.sliceAt t X LO HI MX).run P w=(Instr.slice t X LO HI MX).run P w:=fun X=>by simp [Instr.sliceAt,run_underlying' hd]
   rw [hat]
   split at hv
   ·rename_i m hh l hme hhe hle
    simp at hv;subst hv
    cases hx with
    | emp a =>
     have hm0:m=0:=by
      cases mx with
      | none=>simp [optB] at hme;omega
      | some q=>simp only [optB,boundA] at hme;split at hme<;>(try cases hme);split at hme<;>simp at hme;omega
     have hh0:hh=0:=by
      cases hi with
      | none=>simp [optB] at hhe;omega
      | some q=>simp only [optB,boundA] at hhe;split at hhe<;>(try cases hhe);split at hhe<;>simp at hhe;omega
     subst hm0 hh0
     obtain ⟨h1,h2,h3,M,hM,h4,h5,h6⟩:=sliceBounds_sound (P:=P) (w:=w) (μ:=μ) (b:=true) (len:=0) (kcap:=0) (C:=0) hlo hhi hmx hme hhe hle (Nat.le_refl _) (Nat.le_refl _) hmh
     simp only [Instr.slice,Sem.run_bind,run_underlying' hd,Result.andThen_ok,hM,run_sizeOf' hi',Sem.run_pure]
     refine ⟨_,rfl,?_⟩
     have e2:M-l=0:=by omega
     have e4:M=l:=by omega
     rw [e2,if_pos e4,Nat.zero_sub]
     exact .emp _
   ·cases hv
  ·cases hv
theorem indexAddrA_sound {t:TypeId} {x i:AVal} {X I:Value} {v:AVal} (hv:indexAddrA P t x i=some v) (hx:VR μ x X) (hi:VR μ i I) :
  ∃ V,(Instr.indexAt t X I).run P w=.ok V w∧VR μ v V:=by
 unfold indexAddrA at hv
 split at hv
 ·rename_i k n
  cases hi
  split at hv
  ·rename_i m q z ha
   obtain ⟨e,d,i,hd,hd',hi',hq⟩:=arT_inv ha
   simp at hq
   obtain ⟨rfl,rfl⟩:=hq
   split at hv
   ·rename_i r
    cases hx with
    | ptr _ L hL =>
     split at hv
     ·rename_i hb
      simp at hv;subst hv
      refine ⟨_,?_,hL_add hL _⟩
      simp only [Instr.indexAt,asIntOf,Sem.run_bind,Sem.run_pure,Result.andThen_ok,run_underlying' hd,Instr.sureAddr]
      simp [hb.1,hb.2,run_sizeOf' hi']
     ·cases hv
   ·cases hv
  ·split at hv
   ·rename_i e z zs r len kcap he
    obtain ⟨i,hd,hi',rfl,hz,hb,h0,hzl⟩:=elS_inv he
    split at hv
    ·rename_i hb
     simp at hv;subst hv
     cases hx with
     | slice0=>omega
     | slice _ L _ _ C hL hk hn hc hl =>
      refine ⟨_,?_,hL_add hL _⟩
      simp only [Instr.indexAt,asIntOf,Sem.run_bind,Sem.run_pure,Result.andThen_ok,run_underlying' hd]
      simp [hb.1,hb.2,run_sizeOf' hi']
    ·cases hv
   ·cases hv
 ·cases hv
theorem indexA_sound {t:TypeId} {x i:AVal} {X I:Value} {v:AVal} (hv:indexA P t x i=some v) (hx:VR μ x X) (hi:VR μ i I) :
  ∃ V,(Instr.index t X I).run P w=.ok V w∧VR μ v V:=by
 unfold indexA at hv
 split at hv
 ·rename_i n q cs k j ha
  obtain ⟨e,d,i,hd,hd',hi',rfl⟩:=arT_inv ha
  obtain ⟨A,rfl,hA⟩:=hx.agg_inv
  cases hi
  split at hv
  ·rename_i hb
   obtain ⟨V,hV,hr⟩:=partQ_sound (w:=w) hd' hi' hA hv
   refine ⟨V,?_,hr⟩
   simp [Instr.index,asIntOf,run_underlying' hd,hb.1,hb.2,run_sizeOf' hi',hV]
  ·cases hv
 ·rename_i s k j ha
  cases hx
  cases hi
  split at hv
  ·rename_i hb
   have hd:P.underlying t=some .string:=by
    have:=hb.1
    unfold strT at this
    split at this
    ·assumption
    ·cases this
   cases hs:s[j.toNat]? with
   | none=>rw [hs] at hv;cases hv
   | some b =>
    rw [hs] at hv
    simp only [Option.map_some,Option.some.injEq] at hv
    subst hv
    refine ⟨_,?_,.int _ _⟩
    simp only [Instr.index,asIntOf,Sem.run_bind,Sem.run_pure,Result.andThen_ok,run_underlying' hd]
    simp [hb.2,hs]
  ·cases hv
 ·cases hv
theorem fieldAddrA_sound {t:TypeId} {x:AVal} {X:Value} {f:Nat} {v:AVal} (hv:fieldAddrA P t x f=some v) (hx:VR μ x X) :
  ∃ V,(Instr.fieldAt t X f).run P w=.ok V w∧VR μ v V:=by
 unfold fieldAddrA at hv
 split at hv
 ·rename_i off q z r hf
  obtain ⟨fs,F,d,i,hd,hF,rfl,hd',hi',hq⟩:=fld_inv hf
  simp at hq
  obtain ⟨rfl,rfl⟩:=hq
  split at hv
  ·cases hv
  ·rename_i hz
   simp at hv;subst hv
   cases hx with
   | ptr _ L hL =>
    refine ⟨_,?_,hL_add hL _⟩
    simp [Instr.fieldAt,run_underlying' hd,hF,Instr.sureAddr,fieldPlace,run_sizeOf' hi',hz]
 ·cases hv
theorem fieldA_sound {t:TypeId} {x:AVal} {X:Value} {f:Nat} {v:AVal} (hv:fieldA P t x f=some v) (hx:VR μ x X) :
  ∃ V,(Instr.field t X f).run P w=.ok V w∧VR μ v V:=by
 unfold fieldA at hv
 split at hv
 ·rename_i off q cs hf
  obtain ⟨fs,F,d,i,hd,hF,rfl,hd',hi',rfl⟩:=fld_inv hf
  obtain ⟨A,rfl,hA⟩:=hx.agg_inv
  obtain ⟨V,hV,hr⟩:=partQ_sound (w:=w) hd' hi' hA hv
  exact ⟨V,by simp [Instr.field,run_underlying' hd,hF,asAgg,hV],hr⟩
 ·cases hv
theorem extractA_sound {x:AVal} {X:Value} {i:Nat} {v:AVal} (hv:extractA x i=some v) (hx:VR μ x X):∃ V,(Instr.extract X i).run P w=.ok V w∧VR μ v V:=by
 unfold extractA at hv
 split at hv
 ·obtain ⟨A,rfl,hA⟩:=hx.tuple_inv
  obtain ⟨y,hy,hr⟩:=hA.get hv
  have hy':A[i]?=some y:=by simpa using hy
  exact ⟨y,by simp [Instr.extract,hy'],hr⟩
 ·cases hv
theorem convA_sound {s d:TypeId} {x:AVal} {X:Value} {v:AVal} (hv:convA P d s x=some v) (hx:VR μ x X):∃ V,(convert s d X).run P w=.ok V w∧VR μ v V:=by
 unfold convA at hv
 split at hv
 ·rename_i sd k j n hs hd
  simp at hv;subst hv
  cases hx
  unfold ikT at hd
  split at hd
  ·rename_i k' hk
   simp at hd;subst hd
   refine ⟨_,?_,.int _ _⟩
   simp only [convert,Sem.run_bind,run_underlying' hs,Result.andThen_ok,run_underlying' hk]
   simp [Conv.intToInt]
  ·cases hd
 ·cases hv
theorem splice_length (c:List AVal):∀ (vs:List AVal) (off:Nat),(splice c off vs).length=c.length:=by
 intro vs
 induction vs generalizing c with
 | nil=>intro off;rfl
 | cons v vs ih=>intro off;simp [splice,ih]
theorem splice_VRs:∀ (vs:List AVal) (VS:List Value) (c:List AVal) (C:Array Value) (off:Nat),VRs μ c C.toList→VRs μ vs VS→∀ k,
  VRs μ (splice c (off+k) vs) ((VS.zipIdx k).foldl (fun (cs:Array Value) (p:Value × Nat)=>cs.setIfInBounds (off+p.2) p.1) C).toList
 | [],[],c,C,off,hc,_,k=>by simpa [splice] using hc
 | v :: vs,V :: VS,c,C,off,hc,hv,k=>by
  simp only [splice,List.zipIdx_cons,List.foldl_cons]
  have:=splice_VRs vs VS (c.set (off+k) v) (C.setIfInBounds (off+k) V) off (by simpa using hc.set (off+k) hv.head) hv.tail (k+1)
  simpa [Nat.add_assoc] using this
 | [],_ :: _,_,_,_,_,hv,_=>by have:=hv.1;simp at this
 | _ :: _,[],_,_,_,_,hv,_=>by have:=hv.1;simp at this
theorem fillA_sound {place:Nat→Option (Nat × Nat)}:∀ (parts:List (Nat × AVal)) (PS:List (Nat × Value)) (c c':List AVal) (C:Array Value),VRs μ c C.toList→parts.length=PS.length →
  (∀ (i:Nat) (a b:Nat) (x:AVal) (X:Value),parts[i]?=some (a,x)→PS[i]?=some (b,X)→a=b∧VR μ x X)→fillA place c parts=some c' →
  ∃ C',Instr.fill place C PS=some C'∧VRs μ c' C'.toList
 | [],[],c,c',C,hc,_,_,hf=>by simp [fillA] at hf;subst hf;exact ⟨C,rfl,hc⟩
 | (i,x) :: parts,(j,X) :: PS,c,c',C,hc,hl,hp,hf=>by
  obtain ⟨hij,hx⟩:=hp 0 i j x X rfl rfl
  subst hij
  simp only [fillA] at hf
  split at hf
  ·cases hf
  ·rename_i off size hpl
   split at hf
   ·cases hf
   ·rename_i hcond
    have hne:x ≠ .none:=by
     intro hx0;subst hx0
     simp [AVal.isN] at hcond
    have hcells:=hx.cells hne
    have hsz:X.cells.size=x.cells.length:=by have:=hcells.1;simpa using this.symm
    have hcs:C.size=c.length:=by have:=hc.1;simpa using this.symm
    have h1:=splice_VRs x.cells X.cells.toList c C off hc hcells 0
    obtain ⟨C',hC',hr⟩:=fillA_sound parts PS (splice c off x.cells) c' _ (by simpa using h1) (by simpa using hl) (fun k a b y Y ha hb=>hp (k+1) a b y Y (by simpa using ha) (by simpa using hb)) hf
    refine ⟨C',?_,hr⟩
    simp only [Instr.fill,hpl]
    rw [if_neg (by rw [hsz,hcs];simp only [not_or] at hcond;simp only [Bool.or_eq_true,decide_eq_true_eq,not_or];omega)]
    rw [← hC']
    congr 1
    rw [← Array.foldl_toList]
    simp [Array.toList_zipIdx]
 | [],_ :: _,_,_,_,_,hl,_,_=>by simp at hl
 | _ :: _,[],_,_,_,_,hl,_,_=>by simp at hl
theorem parts_VR {fr:AFrame} {a:Act} (hf:∀ t,VR μ (fr t) (a.tmps.getD t undef)) (parts:List (Nat × Operand)) :
  ∀ (i:Nat) (p q:Nat) (x:AVal) (X:Value),(parts.map fun (i,x)=>(i,ev fr x))[i]?=some (p,x)→(parts.map fun (i,x)=>(i,a.eval x))[i]?=some (q,X)→p=q∧VR μ x X:=by
 intro i p q x X hx hX
 simp only [List.getElem?_map] at hx hX
 cases hp:parts[i]? with
 | none=>simp [hp] at hx
 | some y =>
  obtain ⟨j,o⟩:=y
  simp [hp] at hx hX
  obtain ⟨rfl,rfl⟩:=hx
  obtain ⟨rfl,rfl⟩:=hX
  exact ⟨rfl,ev_VR hf o⟩
theorem placesL_sound:∀ (fs:List Field) (ps:List (Nat × Nat)),placesL P fs=some ps→(fs.mapM fun f=>do pure (f.offset,← sizeOf f.type):Sem (List (Nat × Nat))).run P w=.ok ps w
 | [],ps,h=>by simp [placesL] at h;subst h;simp
 | f :: fs,ps,h=>by
  simp only [placesL] at h
  split at h
  ·rename_i i r hi hr
   simp at h;subst h
   have:=placesL_sound fs r hr
   simp only [List.mapM_cons,Sem.run_bind,run_sizeOf' hi,Result.andThen_ok,Sem.run_pure,this]
  ·cases h
theorem buildA_sound {t:TypeId} {parts:List (Nat × AVal)} {PS:Array (Nat × Value)} {v:AVal} (hv:buildA P t parts=some v) (hl:parts.length=PS.size)
  (hp:∀ (i:Nat) (a b:Nat) (x:AVal) (X:Value),parts[i]?=some (a,x)→PS[i]?=some (b,X)→a=b∧VR μ x X):∃ V,(Instr.build t PS).run P w=.ok V w∧VR μ v V:=by
 unfold buildA at hv
 split at hv
 ·rename_i z hz
  obtain ⟨Z,hZ,hzr⟩:=zc_inv (μ:=μ) hz
  split at hv
  ·rename_i ps hps
   unfold plcS at hps
   split at hps
   ·rename_i fs hd
    cases hf:fillA (fun i=>ps[i]?) z parts with
    | none=>simp [hf] at hv
    | some c' =>
     simp [hf] at hv;subst hv
     obtain ⟨C',hC',hr⟩:=fillA_sound parts PS.toList z c' Z.cells hzr (by simpa using hl) (fun i a b x X ha hb=>hp i a b x X ha (by simpa using hb)) hf
     refine ⟨.agg C',?_,VRs.agg hr⟩
     have:=placesL_sound (w:=w) _ _ hps
     simp only [Instr.build,Sem.run_bind,hZ,Result.andThen_ok,run_underlying' hd,Array.mapM_eq_mapM_toList,Sem.run_map,this,List.getElem?_toArray]
     simp [hC']
   ·cases hps
  ·split at hv
   ·rename_i n q s ha
    obtain ⟨e,d,i,hd,hd',hi',hq⟩:=arT_inv ha
    simp at hq
    obtain ⟨rfl,rfl⟩:=hq
    cases hf:fillA (fun j=>some (j * i.size,i.size)) z parts with
    | none=>simp [hf] at hv
    | some c' =>
     simp [hf] at hv;subst hv
     obtain ⟨C',hC',hr⟩:=fillA_sound parts PS.toList z c' Z.cells hzr (by simpa using hl) (fun i a b x X ha hb=>hp i a b x X ha (by simpa using hb)) hf
     refine ⟨.agg C',?_,VRs.agg hr⟩
     simp only [Instr.build,Sem.run_bind,hZ,Result.andThen_ok,run_underlying' hd,run_sizeOf' hi',hC']
     simp
   ·cases hv
 ·cases hv
theorem mpT_inv {t k e:TypeId} (ht:mpT P t=some (k,e)):P.underlying t=some (.map k e):=by
 unfold mpT at ht
 split at ht
 ·rename_i h;simp at ht;obtain ⟨rfl,rfl⟩:=ht;exact h
 ·cases ht
theorem keyOk_underlying {d:Nat} {t:TypeId} {x:AVal} (h:keyOk P d t x=true):∃ desc,P.underlying t=some desc:=by
 cases d with
 | zero=>simp [keyOk] at h
 | succ d =>
  unfold keyOk at h
  split at h<;>first|(rename_i hd;exact ⟨_,hd⟩)|(cases h;done)
theorem entriesA_sound (H:HRel P μ h w) {x:AVal} {X:Value} {es:List (AVal × AVal)} (he:entriesA h x=some es) (hx:VR μ x X) :
  (x=.map .none∧X=.map .none∧es=[]) ∨ ∃ r L E,x=.map (some r)∧X=.map (some L.blk)∧μ.loc r 0=some L∧h[r]?=some ⟨.map es,0⟩∧w.heap[L.blk]?=some (.map E E.size)∧MapR μ es E:=by
 unfold entriesA at he
 split at he
 ·simp at he;subst he;cases hx;exact .inl ⟨rfl,rfl,rfl⟩
 ·rename_i r
  split at he
  ·rename_i es' hr
   simp at he;subst he
   cases hx with
   | map _ L hL =>
    obtain ⟨E,c,h1,h2,h3⟩:=H.blk r _ L hr hL
    subst h3
    exact .inr ⟨r,L,E,rfl,rfl,hL,hr,h1,h2⟩
  ·cases he
 ·cases he
theorem run_getObj {r:Nat} {o:Obj} (ho:w.heap[r]?=some o) (hc:∀ c e f,o ≠ .cells c e f):(getObj r).run P w=.ok o w:=by
 cases o<;>first|(exact absurd rfl (hc _ _ _))|simp only [getObj,Sem.run,ho]
theorem lookupA_sound (H:HRel P μ h w) {t:TypeId} {x k:AVal} {X K:Value} {ok:Bool} {v:AVal} (hv:lookupA P h t x k ok=some v) (hx:VR μ x X) (hk:VR μ k K) :
  ∃ V,(Instr.lookup t X K ok).run P w=.ok V w∧VR μ v V:=by
 unfold lookupA at hv
 split at hv
 ·rename_i kt et es ht he
  have hd:=mpT_inv ht
  split at hv
  ·rename_i hko
   have hck:=fun b=>keyOk_sound (w:=w) eqDepth 10000 b kt k K (by decide) hko hk
   obtain ⟨desc,hdesc⟩:=keyOk_underlying hko
   have fin:∀ (E:Array MapEntry),MapR μ es E →
     ((Instr.findKey kt K E.toList).run P w=.ok .none w∧∃ z Z,(zeroValue et).run P w=.ok Z w∧VR μ z Z∧v=(if ok then AVal.tuple [z,.bool false] else z)) ∨
     (∃ i z Z,(Instr.findKey kt K E.toList).run P w=.ok (some (i,Z)) w∧VR μ z Z∧v=(if ok then AVal.tuple [z,.bool true] else z)):=by
    intro E hE
    cases hf:findA P kt k es with
    | none=>simp [hf] at hv
    | some r =>
     have hfk:=findKey_sound (w:=w) hk hE hdesc hf
     cases r with
     | none =>
      simp only [hf] at hv
      cases hz:zvA P et with
      | none=>simp [hz] at hv
      | some z =>
       obtain ⟨Z,hZ,hzr⟩:=zvA_inv (w:=w) (μ:=μ) hz
       simp [hz] at hv;subst hv
       exact .inl ⟨hfk,z,Z,hZ,hzr,rfl⟩
     | some i =>
      simp only [hf] at hv
      cases hi:es[i]? with
      | none=>simp [hi] at hv
      | some p =>
       obtain ⟨k',v'⟩:=p
       simp [hi] at hv;subst hv
       have hlt:i<E.size:=by
        rcases Nat.lt_or_ge i es.length with h'|h'
        ·exact hE.1 ▸ h'
        ·simp [List.getElem?_eq_none h'] at hi
       have hEi:E[i]?=some E[i]:=Array.getElem?_eq_getElem hlt
       have:=hE.2 i k' v' _ hi hEi
       simp only [Option.bind_some,hEi,Option.map_some] at hfk
       exact .inr ⟨i,v',_,hfk,this.2.1,rfl⟩
   rcases entriesA_sound H he hx with ⟨rfl,rfl,rfl⟩|⟨r,L,E,rfl,rfl,hL,hr,hw,hE⟩
   ·simp only [Instr.lookup,Sem.run_bind,run_underlying' hd,Result.andThen_ok,Sem.run_pure,hck]
    rcases fin #[] ⟨rfl,fun i k v e h=>by simp at h⟩ with ⟨h1,z,Z,hZ,hr,rfl⟩|⟨i,z,Z,h1,hr,rfl⟩
    ·simp only [h1,hZ,Result.andThen_ok,Sem.run_bind,Sem.run_pure]
     cases ok
     ·exact ⟨_,rfl,hr⟩
     ·exact ⟨_,rfl,VRs.tuple ((VRs.nil.cons (.bool _)).cons hr)⟩
    ·simp only [h1,Result.andThen_ok]
     cases ok
     ·exact ⟨_,rfl,hr⟩
     ·exact ⟨_,rfl,VRs.tuple ((VRs.nil.cons (.bool _)).cons hr)⟩
   ·simp only [Instr.lookup,Sem.run_bind,run_underlying' hd,Result.andThen_ok,Sem.run_pure,run_getObj hw (by simp),hck]
    rcases fin E hE with ⟨h1,z,Z,hZ,hr,rfl⟩|⟨i,z,Z,h1,hr,rfl⟩
    ·simp only [h1,hZ,Result.andThen_ok,Sem.run_bind,Sem.run_pure]
     cases ok
     ·exact ⟨_,rfl,hr⟩
     ·exact ⟨_,rfl,VRs.tuple ((VRs.nil.cons (.bool _)).cons hr)⟩
    ·simp only [h1,Result.andThen_ok]
     cases ok
     ·exact ⟨_,rfl,hr⟩
     ·exact ⟨_,rfl,VRs.tuple ((VRs.nil.cons (.bool _)).cons hr)⟩
  ·cases hv
 ·cases hv
theorem pure_sound {o:Oper} (H:readsH o.op=true→HRel P μ h w) {fr:AFrame} {a:Act} (hf:∀ t,VR μ (fr t) (a.tmps.getD t undef)) {v:AVal} (hv:pureA P fr h o.op=some v) (hp:isPure o.op=true) :
  ∃ V,(execOp a.eval o).run P w=.ok (.value V) w∧VR μ v V:=by
 have lift:∀ {s:Sem Value},(∃ V,s.run P w=.ok V w∧VR μ v V)→∃ V,(do pure (Next.value (← s)):Sem Next).run P w=.ok (.value V) w∧VR μ v V:=by
  rintro s ⟨V,h1,h2⟩
  exact ⟨V,by simp [h1],h2⟩
 have E:=fun x=>ev_VR hf x
 have vro:∀ x:Option Operand,VRo μ (x.map (ev fr)) (x.map a.eval):=by
  intro x;cases x with
  | none=>trivial
  | some x=>exact E x
 unfold execOp
 cases ho:o.op<;>rw [ho] at hv hp<;>simp only [isPure] at hp<;>(try cases hp)<;>simp only [pureA] at hv ⊢
 case move x=>simp at hv;subst hv;exact ⟨_,rfl,E x⟩
 case assign x=>simp at hv;subst hv;exact ⟨_,rfl,E x⟩
 case pick c x y =>
  split at hv
  ·rename_i t hc
   simp at hv;subst hv
   have hcv:=E c
   rw [hc] at hcv
   generalize a.eval c=cv' at hcv ⊢
   cases hcv
   cases t
   ·exact ⟨_,by simp [asBool],E y⟩
   ·exact ⟨_,by simp [asBool],E x⟩
  ·cases hv
 case load t x =>
  split at hv
  ·rename_i r hr
   have hx:=E x
   rw [hr] at hx
   generalize a.eval x=X at hx ⊢
   cases hx with
   | ptr _ L hL =>
    apply lift
    obtain ⟨V,h1,h2⟩:=loadA_sound (H (by rw [ho];rfl)) hv hL
    exact ⟨V,by simp [Instr.loadAt,Instr.sureAddr,h1],h2⟩
  ·cases hv
 case nilCheck x =>
  split at hv
  ·rename_i r hr
   simp at hv;subst hv
   have hx:=E x
   rw [hr] at hx
   generalize a.eval x=X at hx ⊢
   cases hx with
   | ptr _ L hL=>exact ⟨_,rfl,.ptr r L hL⟩
  ·cases hv
 case binOp op t x y yt=>exact lift (binA_sound hv (E x) (E y))
 case unOp op t x=>exact lift (unA_sound hv (E x))
 case convert s d x=>exact lift (convA_sound hv (E x))
 case makeFunc fn first captured =>
  cases fn<;>simp at hv
  subst hv
  have h1:=map_VRs hf first.toList
  have h2:=map_VRs hf captured.toList
  exact ⟨.func (.func _) (first.map a.eval) (captured.map a.eval),by simp [Instr.makeFunc],.fn _ _ _ _ _ (by simp) (by simp) (fun i x y hx hy=>h1.2 i x y hx (by simpa using hy)) (fun i x y hx hy=>h2.2 i x y hx (by simpa using hy))⟩
 case slice t x lo hi mx =>
  split at hv
  ·cases hv
  ·rename_i hc
   refine lift (sliceA_sound hv (E x) (vro lo) (vro hi) (vro mx) ?_)
   intro h1 h2
   cases mx<;>cases hi<;>simp_all
 case fieldAddr t x f=>exact lift (fieldAddrA_sound hv (E x))
 case field t x f=>exact lift (fieldA_sound hv (E x))
 case indexAddr t x i=>exact lift (indexAddrA_sound hv (E x) (E i))
 case index t x i=>exact lift (indexA_sound hv (E x) (E i))
 case lookup t x i ok=>exact lift (lookupA_sound (H (by rw [ho];rfl)) hv (E x) (E i))
 case extract x i=>exact lift (extractA_sound hv (E x))
 case build t parts =>
  refine lift (buildA_sound hv (by simp) ?_)
  intro i a' b x X hx hX
  have:=parts_VR hf parts.toList i a' b x X hx
  exact this (by simpa using hX)
end
end Go.AM
