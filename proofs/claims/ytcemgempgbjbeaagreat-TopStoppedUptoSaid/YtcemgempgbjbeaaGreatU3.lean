/-
  The builtins, stores into maps, and all operations that make or write memory.
-/
import Derived.Test.YtcemgempgbjbeaaGreatU2
set_option linter.unusedSimpArgs false
set_option linter.unusedVariables false
namespace Go.AM
section
variable {P:Program} {base:Nat} {μ μ':Mu} {h:Heap} {w w':World}
theorem copyA_sound (H:HRel P μ h w) {t t':TypeId} {ts:List TypeId} {d s:AVal} {D S:Value} {v:AVal} {h':Heap} (hv:copyA P base h t d s=some (v,h')) (hd:VR μ d D) (hs:VR μ s S) :
    ∃ V w',(Builtin.copy_ (t :: ts).toArray t' #[D,S]).run P w=.ok V w'∧Fine P base μ h w v h' V w':=by
  unfold copyA at hv
  split at hv
  · rename_i e z zs a dlen kc he
    obtain ⟨i,hd',hi,rfl,hz,hb,h0,hzl⟩:=elS_inv he
    split at hv
    · cases hv
    · rename_i n hn
      obtain ⟨hln,aS,cS,hS⟩:=lenA_sound (P:=P) (w:=w) hn hs
      split at hv
      · cases hv
      · rename_i cs hcs
        obtain ⟨C,hC,hcr⟩:=firstN_sound (P:=P) (w:=w) H hcs hs (by intro r e;subst e;simp [lenA] at hn;subst hn;simp)
        have hcl:=firstN_len hcs
        have e0:(t :: ts).toArray[0]?=some t:=by simp
        have e2:(#[D,S]:Array Value)[0]?=some D:=rfl
        have e3:(#[D,S]:Array Value)[1]?=some S:=rfl
        have pre:∀ bs cap,D=.slice bs dlen cap→(Builtin.copy_ (t :: ts).toArray t' #[D,S]).run P w=(do
            if let some a:=bs then storeCells a C.toList
            pure (goInt ((min n dlen:Nat):Int)):Sem Value).run P w:=by
          intro bs cap hD
          subst hD
          simp only [Builtin.copy_,e0,e2,e3,Sem.run_bind,run_underlying' hd',Result.andThen_ok,hln,run_sizeOf' hi]
          rw [show Nat.min n dlen=min n dlen from rfl,hC]
          cases bs<;>simp
        split at hv
        · simp at hv;obtain ⟨rfl,rfl⟩:=hv
          cases hd
          refine ⟨_,w,(pre _ _ rfl).trans (by simp;rfl),Fine.same H ?_⟩
          simp [goInt];exact .int _ _
        · rename_i r
          split at hv
          · rename_i h'' hst
            simp at hv;obtain ⟨rfl,rfl⟩:=hv
            cases hd with
            | slice0 _ a Ca =>
              simp only [Nat.min_zero,Nat.zero_mul] at hcl
              have hc0:cs=[]:=List.eq_nil_of_length_eq_zero hcl
              subst hc0
              have:=storeN_nil hst;subst this
              have hC0:C.toList=[]:=List.eq_nil_of_length_eq_zero hcr.1.symm
              refine ⟨.int .i64 (min n 0:Nat),w,(pre _ _ rfl).trans (by simp [hC0,storeCells,goInt]),Fine.same H (.int _ _)⟩
            | slice _ L _ _ C' hL hk hn' hc hl =>
              obtain ⟨w',s1,s2,s3⟩:=storeN_sound H hst hL hcr
              refine ⟨.int .i64 (min n dlen:Nat),w',(pre _ _ rfl).trans (by simp [s1,goInt]),μ,.rfl,.int _ _,s2,s3,.rfl⟩
          · cases hv
  · cases hv
theorem clearA_sound (H:HRel P μ h w) {t t':TypeId} {ts:List TypeId} {x:AVal} {X:Value} {v:AVal} {h':Heap} (hv:clearA P base h t x=some (v,h')) (hx:VR μ x X) :
    ∃ V w',(Builtin.clear_ (t :: ts).toArray t' #[X]).run P w=.ok V w'∧Fine P base μ h w v h' V w':=by
  have e0:(t :: ts).toArray[0]?=some t:=by simp
  have e2:(#[X]:Array Value)[0]?=some X:=rfl
  unfold clearA at hv
  split at hv
  · rename_i q k c he
    obtain ⟨e,z,zs⟩:=q
    obtain ⟨i,hd',hi,rfl,hz,hb,h0,hzl⟩:=elS_inv he
    simp at hv;obtain ⟨rfl,rfl⟩:=hv
    cases hx
    exact ⟨.tuple #[],w,by simp [Builtin.clear_,run_underlying' hd'],Fine.same H VR_undef⟩
  · rename_i q r c he
    obtain ⟨e,z,zs⟩:=q
    obtain ⟨i,hd',hi,rfl,hz,hb,h0,hzl⟩:=elS_inv he
    simp at hv;obtain ⟨rfl,rfl⟩:=hv
    cases hx<;>exact ⟨.tuple #[],w,by simp [Builtin.clear_,run_underlying' hd'],Fine.same H VR_undef⟩
  · rename_i q he
    obtain ⟨e,z,zs⟩:=q
    obtain ⟨i,hd',hi,rfl,hz,hb,h0,hzl⟩:=elS_inv he
    simp at hv;obtain ⟨rfl,rfl⟩:=hv
    cases hx
    exact ⟨.tuple #[],w,by simp [Builtin.clear_,run_underlying' hd'],Fine.same H VR_undef⟩
  · rename_i e z zs r n c he
    obtain ⟨i,hd',hi,rfl,hz,hb,h0,hzl⟩:=elS_inv he
    obtain ⟨Z,hZ,hzr⟩:=zc_inv (μ:=μ) hz
    split at hv
    · rename_i h'' hst
      simp at hv;obtain ⟨rfl,rfl⟩:=hv
      cases hx with
      | slice _ L _ _ C hL hk hn hc hl =>
        have hzs:Z.cells.size=i.size:=by have:=hzr.1;simp at this;omega
        have hrep:=rep_VR hzr (n+1) ((n+1) * Z.cells.size) rfl
        rw [← zeroCells_eq] at hrep
        obtain ⟨w',s1,s2,s3⟩:=storeN_sound H hst hL hrep
        exact ⟨.tuple #[],w',by simp [Builtin.clear_,run_underlying' hd',hZ,s1],μ,.rfl,VR_undef,s2,s3,.rfl⟩
    · cases hv
  · cases hv
theorem lenOpA_sound (H:HRel P μ h w) {t t':TypeId} {ts:List TypeId} {x:AVal} {X:Value} {v:AVal} (hv:lenOpA P h t x=some v) (hx:VR μ x X) :
    ∃ V,(Builtin.len_ (t :: ts).toArray t' #[X]).run P w=.ok V w∧VR μ v V:=by
  have e0:(t :: ts).toArray[0]?=some t:=by simp
  have e2:(#[X]:Array Value)[0]?=some X:=rfl
  unfold lenOpA at hv
  split at hv
  · rename_i e z zs he
    obtain ⟨i,hd',hi,rfl,hz,hb,h0,hzl⟩:=elS_inv he
    cases hn:lenA i.size x with
    | none=>simp [hn] at hv
    | some n =>
      simp [hn] at hv;subst hv
      obtain ⟨_,a,c,rfl⟩:=lenA_sound (P:=P) (w:=w) hn hx
      exact ⟨.int .i64 n,by simp [Builtin.len_,run_underlying' hd',goInt],.int _ _⟩
  · split at hv
    · rename_i n q ha
      obtain ⟨e,d,i,hd,hd',hi',rfl⟩:=arT_inv ha
      simp at hv;subst hv
      exact ⟨.int .i64 n,by simp [Builtin.len_,run_underlying' hd,goInt],.int _ _⟩
    · split at hv
      · rename_i q hm
        obtain ⟨k,e⟩:=q
        have hd:=mpT_inv hm
        cases he:entriesA h x with
        | none=>simp [he] at hv
        | some es =>
          simp [he] at hv;subst hv
          rcases entriesA_sound H he hx with ⟨rfl,rfl,rfl⟩|⟨r,L,E,rfl,rfl,hL,hr,hw,hE⟩
          · exact ⟨.int .i64 (([]:List (AVal × AVal)).length:Nat),by simp [Builtin.len_,run_underlying' hd,goInt],.int _ _⟩
          · exact ⟨.int .i64 es.length,by simp [Builtin.len_,run_underlying' hd,run_getObj hw,goInt,hE.1],.int _ _⟩
      · cases hv
theorem minmax_sound {big:Bool}:∀ {xs:List AVal} {x v:AVal} {X:Value} {XS:List Value},minmax big x xs=some v→VR μ x X→VRs μ xs XS →
    ∃ V,(XS.foldlM (if big then Builtin.max2 else Builtin.min2) X).run P w=.ok V w∧VR μ v V
  | [],x,v,X,[],hv,hx,_=>by simp [minmax] at hv;subst hv;exact ⟨X,by simp,hx⟩
  | y :: ys,x,v,X,Y :: YS,hv,hx,hs=>by
    have hy:=hs.head
    unfold minmax at hv
    split at hv
    · rename_i heq;cases heq
    · rename_i k a k' b rest heq
      simp at heq;obtain ⟨rfl,rfl⟩:=heq
      cases hx;cases hy
      obtain ⟨V,h1,h2⟩:=minmax_sound hv (.int _ _) hs.tail
      refine ⟨V,?_,h2⟩
      rw [List.foldlM_cons]
      cases big<;>simp_all [Builtin.max2,Builtin.min2]
    · cases hv
  | [],_,_,_,_ :: _,_,_,hs=>by have:=hs.1;simp at this
  | _ :: _,_,_,_,[],_,_,hs=>by have:=hs.1;simp at this
theorem args_one {l:List Value} {μ:Mu} {x:AVal} (h:VRs μ [x] l):∃ X,l=[X]∧VR μ x X:=by
  match l,h with
  | [X],h=>exact ⟨X,rfl,h.head⟩
  | [],h=>have:=h.1;simp at this
  | _ :: _ :: _,h=>have:=h.1;simp at this
theorem args_two {l:List Value} {μ:Mu} {x y:AVal} (h:VRs μ [x,y] l):∃ X Y,l=[X,Y]∧VR μ x X∧VR μ y Y:=by
  match l,h with
  | [X,Y],h=>exact ⟨X,Y,rfl,h.head,h.tail.head⟩
  | [],h=>have:=h.1;simp at this
  | [_],h=>have:=h.1;simp at this
  | _ :: _ :: _ :: _,h=>have:=h.1;simp at this
theorem capA_sound {t t':TypeId} {ts:List TypeId} {x:AVal} {X:Value} {v:AVal} (hv:capA P t x=some v) (hx:VR μ x X) :
    ∃ V,(Builtin.cap_ (t :: ts).toArray t' #[X]).run P w=.ok V w∧VR μ v V:=by
  have e0:(t :: ts).toArray[0]?=some t:=by simp
  have e2:(#[X]:Array Value)[0]?=some X:=rfl
  unfold capA at hv
  split at hv
  · rename_i q he
    obtain ⟨e,z,zs⟩:=q
    obtain ⟨i,hd',hi,rfl,hz,hb,h0,hzl⟩:=elS_inv he
    have run:∀ a n c,X=.slice a n c→(Builtin.cap_ (t :: ts).toArray t' #[X]).run P w=.ok (.int .i64 (c:Int)) w:=fun a n c hX=>by
      subst hX;simp [Builtin.cap_,run_underlying' hd',goInt]
    split at hv
    · cases hv
      cases hx with
      | sliceN=>exact ⟨_,run _ _ _ rfl,.atl _ _ (Int.le_refl _)⟩
      | slice0 r a C=>exact ⟨_,run _ _ _ rfl,.atl _ _ (by omega)⟩
      | slice r L n k C h hk hn hc hl=>exact ⟨_,run _ _ _ rfl,.atl _ _ (by omega)⟩
    · cases hv
      cases hx with
      | emp a=>exact ⟨_,run _ _ _ rfl,.atl _ _ (Int.le_refl _)⟩
    · cases hv
  · cases hv
theorem args_cons {l:List Value} {μ:Mu} {x:AVal} {xs:List AVal} (h:VRs μ (x :: xs) l):∃ X XS,l=X :: XS∧VR μ x X∧VRs μ xs XS:=by
  match l,h with
  | X :: XS,h=>exact ⟨X,XS,rfl,h.head,h.tail⟩
  | [],h=>have:=h.1;simp at this
theorem builtinA_sound (H:HRel P μ h w) {b:Builtin} {ts:Array TypeId} {type:TypeId} {consts:Array Bool} {args:List AVal} {A:Array Value} {v:AVal} {h':Heap}
    (hv:builtinA P base h b ts.toList args=some (v,h')) (ha:VRs μ args A.toList):∃ V w',(builtin b ts type consts A).run P w=.ok (.value V) w'∧Fine P base μ h w v h' V w':=by
  have lift:∀ {s:Sem Value},(∃ V w',s.run P w=.ok V w'∧Fine P base μ h w v h' V w')→∃ V w',(do pure (Next.value (← s)):Sem Next).run P w=.ok (.value V) w'∧Fine P base μ h w v h' V w':=by
    rintro s ⟨V,w',h1,h2⟩
    exact ⟨V,w',by simp [h1],h2⟩
  unfold builtinA at hv
  split at hv
  · rename_i t ts' x hts
    obtain ⟨X,hA,hx⟩:=args_one ha
    cases hr:lenOpA P h t x with
    | none=>simp [hr] at hv
    | some r =>
      simp [hr] at hv;obtain ⟨rfl,rfl⟩:=hv
      obtain ⟨V,h1,h2⟩:=lenOpA_sound (w:=w) (t':=type) (ts:=ts') H hr hx
      have ets:ts=(t :: ts').toArray:=by rw [← hts]
      have eA:A=#[X]:=by rw [← Array.toArray_toList (xs:=A),hA]
      subst ets eA
      exact lift ⟨V,w,h1,Fine.same H h2⟩
  · rename_i t t' s x hts
    obtain ⟨S,X,hA,hs,hx⟩:=args_two ha
    split at hv
    · cases hv
    · rename_i hn
      obtain ⟨V,w',h1,h2⟩:=appendA_sound H hv hn hs hx
      have ets:ts=#[t,t']:=by rw [← Array.toArray_toList (xs:=ts),hts]
      have eA:A=#[S,X]:=by rw [← Array.toArray_toList (xs:=A),hA]
      subst ets eA
      exact lift ⟨V,w',h1,h2⟩
  · rename_i t ts' d s hts
    obtain ⟨D,S,hA,hd,hs⟩:=args_two ha
    have ets:ts=(t :: ts').toArray:=by rw [← hts]
    have eA:A=#[D,S]:=by rw [← Array.toArray_toList (xs:=A),hA]
    subst ets eA
    exact lift (copyA_sound H hv hd hs)
  · rename_i t ts' x hts
    obtain ⟨X,hA,hx⟩:=args_one ha
    have ets:ts=(t :: ts').toArray:=by rw [← hts]
    have eA:A=#[X]:=by rw [← Array.toArray_toList (xs:=A),hA]
    subst ets eA
    exact lift (clearA_sound H hv hx)
  · rename_i x xs
    obtain ⟨X,XS,hA,hx,hs⟩:=args_cons ha
    cases hr:minmax false x xs with
    | none=>simp [hr] at hv
    | some r =>
      simp [hr] at hv;obtain ⟨rfl,rfl⟩:=hv
      obtain ⟨V,h1,h2⟩:=minmax_sound (P:=P) (w:=w) hr hx hs
      refine lift ⟨V,w,?_,Fine.same H h2⟩
      simp only [Builtin.min_,hA]
      simpa using h1
  · rename_i x xs
    obtain ⟨X,XS,hA,hx,hs⟩:=args_cons ha
    cases hr:minmax true x xs with
    | none=>simp [hr] at hv
    | some r =>
      simp [hr] at hv;obtain ⟨rfl,rfl⟩:=hv
      obtain ⟨V,h1,h2⟩:=minmax_sound (P:=P) (w:=w) hr hx hs
      refine lift ⟨V,w,?_,Fine.same H h2⟩
      simp only [Builtin.max_,hA]
      simpa using h1
  · rename_i t ts' x hts
    obtain ⟨X,hA,hx⟩:=args_one ha
    cases hr:capA P t x with
    | none=>simp [hr] at hv
    | some r =>
      simp [hr] at hv;obtain ⟨rfl,rfl⟩:=hv
      obtain ⟨V,h1,h2⟩:=capA_sound (P:=P) (w:=w) (t':=type) (ts:=ts') hr hx
      have ets:ts=(t :: ts').toArray:=by rw [← hts]
      have eA:A=#[X]:=by rw [← Array.toArray_toList (xs:=A),hA]
      subst ets eA
      exact lift ⟨V,w,h1,Fine.same H h2⟩
  · cases hv
theorem quiet_sound {c:Call} {b:Builtin} {type:TypeId} {consts:Array Bool} {args:List AVal} {A:Array Value} {v:AVal} {h':Heap} (hq:quietB P (.call c)=true) (hc:c.callee=.builtin b)
    (hv:builtinA P base h b c.argTypes.toList args=some (v,h')) (ha:VRs μ args A.toList):∃ V,(builtin b c.argTypes type consts A).run P w=.ok (.value V) w∧VR μ v V:=by
  have lift:∀ {s:Sem Value},(∃ V,s.run P w=.ok V w∧VR μ v V)→∃ V,(do pure (Next.value (← s)):Sem Next).run P w=.ok (.value V) w∧VR μ v V:=by
    rintro s ⟨V,h1,h2⟩
    exact ⟨V,by simp [h1],h2⟩
  unfold quietB at hq
  simp only [hc] at hq
  generalize hts:c.argTypes.toList=l at hq hv
  unfold builtinA at hv
  split at hv
  · rename_i t ts' x
    simp only at hq
    obtain ⟨X,hA,hx⟩:=args_one ha
    have ets:c.argTypes=(t :: ts').toArray:=by rw [← hts]
    have eA:A=#[X]:=by rw [← Array.toArray_toList (xs:=A),hA]
    subst eA
    rw [ets]
    obtain ⟨⟨e,z,zs⟩,he⟩:=Option.isSome_iff_exists.1 hq
    simp only [lenOpA,he] at hv
    obtain ⟨i,hd',hi,rfl,hz,hb,h0,hzl⟩:=elS_inv he
    cases hn:lenA i.size x with
    | none=>simp [hn] at hv
    | some n =>
      simp [hn] at hv;obtain ⟨rfl,rfl⟩:=hv
      obtain ⟨_,a,c,rfl⟩:=lenA_sound (P:=P) (w:=w) hn hx
      refine lift ⟨.int .i64 n,?_,.int _ _⟩
      have e0:(t :: ts').toArray[0]?=some t:=by simp
      simp [Builtin.len_,run_underlying' hd',goInt]
  · simp at hq
  · simp at hq
  · simp at hq
  · rename_i x xs
    obtain ⟨X,XS,hA,hx,hs⟩:=args_cons ha
    cases hr:minmax false x xs with
    | none=>simp [hr] at hv
    | some r =>
      simp [hr] at hv;obtain ⟨rfl,rfl⟩:=hv
      obtain ⟨V,h1,h2⟩:=minmax_sound (P:=P) (w:=w) hr hx hs
      refine lift ⟨V,?_,h2⟩
      simp only [Builtin.min_,hA]
      simpa using h1
  · rename_i x xs
    obtain ⟨X,XS,hA,hx,hs⟩:=args_cons ha
    cases hr:minmax true x xs with
    | none=>simp [hr] at hv
    | some r =>
      simp [hr] at hv;obtain ⟨rfl,rfl⟩:=hv
      obtain ⟨V,h1,h2⟩:=minmax_sound (P:=P) (w:=w) hr hx hs
      refine lift ⟨V,?_,h2⟩
      simp only [Builtin.max_,hA]
      simpa using h1
  · simp at hq
  · cases hv
end
end Go.AM
namespace Go.AM
section
variable {P:Program} {base:Nat} {μ μ':Mu} {h:Heap} {w w':World}
theorem run_setObj {r:Nat} {o o':Obj} (ho:w.heap[r]?=some o) (hc:∀ c e f,o ≠ .cells c e f):(setObj r o').run P w=.ok () { w with heap:=w.heap.setIfInBounds r o' }:=by
  cases o<;>first|(exact absurd rfl (hc _ _ _))|simp only [setObj,Sem.run,ho]
theorem setObj_facts {r:Nat} {o o':Obj} (ho:w.heap[r]?=some o):({ w with heap:=w.heap.setIfInBounds r o' }:World).heap[r]?=some o' ∧
    (∀ k,k ≠ r→({ w with heap:=w.heap.setIfInBounds r o' }:World).heap[k]?=w.heap[k]?)∧({ w with heap:=w.heap.setIfInBounds r o' }:World).heap.size=w.heap.size:=by
  have hr:r<w.heap.size:=by
    rcases Nat.lt_or_ge r w.heap.size with h|h
    · exact h
    · simp [Array.getElem?_eq_none h] at ho
  refine ⟨by simp [hr],fun k hk=>?_,by simp⟩
  simp only [Array.getElem?_setIfInBounds]
  rw [if_neg (fun e=>hk e.symm)]
theorem findA_lt {kt:TypeId} {key:AVal}:∀ {es:List (AVal × AVal)} {i:Nat},findA P kt key es=some (some i)→i<es.length
  | [],i,h=>by simp [findA] at h
  | (x,v) :: es,i,h=>by
    simp only [findA] at h
    split at h
    · simp at h;subst h;simp
    · cases hf:findA P kt key es with
      | none=>simp [hf] at h
      | some r =>
        cases r with
        | none=>simp [hf] at h
        | some j=>simp [hf] at h;subst h;have:=findA_lt hf;simp;omega
    · cases h
theorem mapUpdateA_sound (H:HRel P μ h w) {t:TypeId} {m k x:AVal} {M K X:Value} {h':Heap} (hv:mapUpdateA P base h t m k x=some h') (hm:VR μ m M) (hk:VR μ k K) (hx:VR μ x X) :
    ∃ w',(Instr.mapUpdate t M K X).run P w=.ok () w'∧HRel P μ h' w'∧Evo μ h w μ h' w':=by
  unfold mapUpdateA at hv
  split at hv
  · rename_i kt et r ht
    have hd:=mpT_inv ht
    split at hv
    · rename_i es hr
      split at hv
      · rename_i hcond
        obtain ⟨hko,_⟩:=hcond
        cases hm with
        | map _ L hL =>
          obtain ⟨E,c,k1,k2,k3⟩:=H.blk r _ L hr hL
          subst k3
          obtain ⟨desc,hdesc⟩:=keyOk_underlying hko
          have hck:=keyOk_sound (w:=w) eqDepth 10000 false kt k K (by decide) hko hk
          split at hv
          · rename_i i hf
            split at hv
            · rename_i hkey
              simp at hv;subst hv
              have hfk:=findKey_sound (w:=w) hk k2 hdesc hf
              have hi:=findA_lt hf
              have hiE:i<E.size:=by rw [← k2.1];exact hi
              have hEi:E[i]?=some E[i]:=Array.getElem?_eq_getElem hiE
              obtain ⟨kx,hkx⟩:∃ p,es[i]?=some p:=⟨es[i],List.getElem?_eq_getElem hi⟩
              obtain ⟨k0,v0⟩:=kx
              rw [hkx] at hkey;simp at hkey;subst hkey
              obtain ⟨hk0,hv0,hb0⟩:=k2.2 i k0 v0 _ hkx hEi
              simp only [Option.bind_some,hEi,Option.map_some] at hfk
              -- whichever key stays stands for the key
              have stays:∃ K' w1,(Instr.keyThatStays E[i].key K).run P w=.ok K' w1∧VR μ k0 K'∧(w1=w ∨ w1=w.drew):=by
                unfold Instr.keyThatStays
                split
                · exact ⟨K,w,rfl,hk,.inl rfl⟩
                · simp only [Sem.run_bind,run_choose,Question.forced]
                  simp only [show (2=1)=False by simp,decide_false,Bool.false_eq_true,if_false,Result.andThen_ok,Sem.run_pure]
                  split
                  · exact ⟨K,_,rfl,hk,.inr rfl⟩
                  · exact ⟨E[i].key,_,rfl,hk0,.inr rfl⟩
              obtain ⟨K',w1,hst,hK',hw1⟩:=stays
              have hheap:w1.heap=w.heap:=by rcases hw1 with rfl|rfl<;>rfl
              have ho1:w1.heap[L.blk]?=some (.map E E.size):=by rw [hheap];exact k1
              let E':=E.modify i fun e=>{ e with key:=K',val:=X }
              obtain ⟨f1,f2,f3⟩:=setObj_facts (o':=.map E' E.size) ho1
              refine ⟨{ w1 with heap:=w1.heap.setIfInBounds L.blk (.map E' E.size) },?_,HRel.upd H hr hL rfl rfl ?_ ?_ ?_ ⟨E',E.size,f1,⟨by simp [E',k2.1],?_⟩,by simp [E']⟩⟩
              · simp only [Instr.mapUpdate,Sem.run_bind,run_underlying' hd,Result.andThen_ok,run_getObj k1 (by simp),hck,hfk,hEi,Option.map_some,Option.getD_some,hst]
                rw [run_setObj ho1 (by simp)]
              · rcases hw1 with rfl|rfl<;>exact ⟨rfl,rfl,rfl⟩
              · intro q hq;rw [f2 q hq,hheap]
              · rw [f3,hheap]
              · intro j kk vv e hj he
                simp only [E',Array.getElem?_modify] at he
                rw [List.getElem?_set] at hj
                by_cases hij:i=j
                · subst hij
                  rw [if_pos rfl,if_pos hi] at hj
                  rw [if_pos rfl,hEi] at he
                  simp at hj he
                  obtain ⟨rfl,rfl⟩:=hj
                  subst he
                  exact ⟨hK',hx,hb0⟩
                · rw [if_neg hij] at hj he
                  exact k2.2 j kk vv e hj he
            · cases hv
          · rename_i hf
            simp at hv;subst hv
            have hfk:=findKey_sound (w:=w) hk k2 hdesc hf
            simp only [Option.bind_none] at hfk
            let E':=E.push { key:=K,val:=X,born:=E.size }
            obtain ⟨f1,f2,f3⟩:=setObj_facts (o':=.map E' (E.size+1)) k1
            refine ⟨{ w with heap:=w.heap.setIfInBounds L.blk (.map E' (E.size+1)) },?_,HRel.upd H hr hL rfl rfl ⟨rfl,rfl,rfl⟩ f2 f3 ⟨E',E.size+1,f1,⟨by simp [E',k2.1],?_⟩,by simp [E']⟩⟩
            · simp only [Instr.mapUpdate,Sem.run_bind,run_underlying' hd,Result.andThen_ok,run_getObj k1 (by simp),hck,hfk]
              rw [run_setObj k1 (by simp)]
            · intro j kk vv e hj he
              simp only [E',Array.getElem?_push] at he
              rcases Nat.lt_or_ge j es.length with hj'|hj'
              · rw [List.getElem?_append_left hj'] at hj
                rw [if_neg (by have:=k2.1;omega)] at he
                exact k2.2 j kk vv e hj he
              · rw [List.getElem?_append_right hj'] at hj
                have hj0:j=es.length:=by
                  rcases Nat.eq_zero_or_pos (j-es.length) with h|h
                  · omega
                  · obtain ⟨q,hq⟩:∃ q,j-es.length=q+1:=⟨j-es.length-1,by omega⟩
                    rw [hq] at hj;simp at hj
                subst hj0
                simp at hj
                rw [if_pos k2.1] at he
                simp at he
                obtain ⟨rfl,rfl⟩:=hj
                subst he
                exact ⟨hk,hx,k2.1.symm⟩
          · cases hv
      · cases hv
    · cases hv
  · cases hv
theorem anon_sound (H:HRel P μ h w) {C:Array Value} {e:TypeId} {cs:List AVal} (hr:VRs μ cs C.toList) (hbare:cs.all AVal.bare=true) :
    ∃ μ',μ.le μ'∧μ'.anon w.heap.size=some cs∧HRel P μ' h { w with heap:=w.heap.push (.cells C e) }∧Evo μ h w μ' h { w with heap:=w.heap.push (.cells C e) }∧Fresh base μ h μ':=by
  have h0:μ.anon w.heap.size=.none:=by
    cases hc:μ.anon w.heap.size with
    | none=>rfl
    | some l =>
      obtain ⟨⟨C,e,fz,h1,_⟩,_⟩:=H.anon _ l hc
      simp at h1
  let μ':Mu:={ μ with anon:=fun b=>if b=w.heap.size then some cs else μ.anon b }
  have hle:μ.le μ':=⟨fun _ _ _ hL=>hL,fun b l hb=>by
    simp only [μ'];split
    · rename_i hc;subst hc;rw [h0] at hb;cases hb
    · exact hb⟩
  have hw:∀ k,k<w.heap.size→({ w with heap:=w.heap.push (.cells C e) }:World).heap[k]?=w.heap[k]?:=fun k hk=>by simp only [Array.getElem?_push];rw [if_neg (by omega)]
  refine ⟨μ',hle,by simp [μ'],⟨fun id v L hL=>?_,fun id b L hb hL=>?_,H.disj,H.cur,fun b l hb=>?_,fun b l hb=>?_⟩,⟨by simp,rfl,rfl,rfl,fun b hb hn=>⟨hw b hb,hn⟩,fun b l hl=>?_⟩,fun id v L hL=>.inl hL⟩
  · obtain ⟨b,h1,h2,h3⟩:=H.dom id v L hL
    exact ⟨b,h1,h2,by simp;omega⟩
  · obtain ⟨_,_,_,h3⟩:=H.dom id _ L hL
    exact (H.blk id b L hb hL).step hle (hw _ h3)
  · simp only [μ'] at hb
    split at hb
    · rename_i hc;subst hc;cases hb
      refine ⟨⟨C,e,(0,0),by simp,hr.mono hle⟩,fun id k L hk hL hwr=>?_⟩
      obtain ⟨_,_,_,h3⟩:=H.dom id _ L hL;omega
    · obtain ⟨⟨C',e',fz,h1,h2⟩,h3⟩:=H.anon b l hb
      have hlt:b<w.heap.size:=by
        rcases Nat.lt_or_ge b w.heap.size with hi|hi
        · exact hi
        · simp [Array.getElem?_eq_none hi] at h1
      exact ⟨⟨C',e',fz,(hw _ hlt).trans h1,h2.mono hle⟩,h3⟩
  · simp only [μ'] at hb
    split at hb
    · cases hb
      exact bare_refsL hbare
    · exact H.adom b l hb
  · simp only [μ'] at hl
    split at hl
    · exact .inr (by omega)
    · exact .inl hl
theorem memA_sound (H:HRel P μ h w) {fr:AFrame} {a:Act} (hf:∀ t,VR μ (fr t) (a.tmps.getD t undef)) {lit:Bool} {o:Oper} {v:AVal} {h':Heap} (hv:memA P base lit fr h o.op=some (v,h')) :
    ∃ r V w',(execOp a.eval o).run P w=.ok r w'∧(r=.value V ∨ (r=.skip∧V=undef))∧Fine P base μ h w v h' V w':=by
  have E:=fun x=>ev_VR hf x
  have lift:∀ {s:Sem Value},(∃ V w',s.run P w=.ok V w'∧Fine P base μ h w v h' V w')→∃ r V w',(do pure (Next.value (← s)):Sem Next).run P w=.ok r w'∧(r=.value V ∨ (r=.skip∧V=undef))∧Fine P base μ h w v h' V w':=by
    rintro s ⟨V,w',h1,h2⟩
    exact ⟨.value V,V,w',by simp [h1],.inl rfl,h2⟩
  have skip:∀ {s:Sem Unit},v=undefA→(∃ w',s.run P w=.ok () w'∧HRel P μ h' w'∧Evo μ h w μ h' w')→∃ r V w',(do s;pure Next.skip:Sem Next).run P w=.ok r w'∧(r=.value V ∨ (r=.skip∧V=undef))∧Fine P base μ h w v h' V w':=by
    rintro s rfl ⟨w',h1,h2,h3⟩
    exact ⟨.skip,undef,w',by simp [h1],.inr ⟨rfl,rfl⟩,μ,.rfl,VR_undef,h2,h3,.rfl⟩
  unfold execOp
  cases ho:o.op<;>rw [ho] at hv<;>simp only [memA] at hv ⊢<;>(try cases hv)
  case alloc t =>
    cases hz:zc P t with
    | none=>simp [hz] at hv
    | some z =>
      simp [hz] at hv;obtain ⟨rfl,rfl⟩:=hv
      exact lift (alloc_sound H hz)
  case box t x =>
    split at hv
    · cases hv
    · rename_i hn
      simp at hv;obtain ⟨rfl,rfl⟩:=hv
      exact lift (box_sound H (E x) hn)
  case buildSlice t n parts =>
    split at hv
    · rename_i e z cs hr
      obtain ⟨C,hrun,hvs,hlen,hz0,hsz⟩:=rowOf_sound (μ:=μ) (PS:=parts.map fun (i,x)=>(i,a.eval x)) hr (by simp) (fun i p q x X hx hX=>parts_VR hf parts.toList i p q x X hx (by simpa using hX))
      have hCs:C.size=n * z:=by have:=hvs.1;simp at this;omega
      split at hv
      · rename_i hn
        simp at hv;obtain ⟨rfl,rfl⟩:=hv
        subst hn
        have hw:∀ k,k<w.heap.size→({ w with heap:=w.heap.push (.cells C e) }:World).heap[k]?=w.heap[k]?:=fun k hk=>by simp only [Array.getElem?_push];rw [if_neg (by omega)]
        exact lift ⟨_,_,hrun w,μ,.rfl,.emp _,H.world hw (by simp),⟨by simp,rfl,rfl,rfl,fun b hb hn=>⟨hw b hb,hn⟩,fun _ _ hl=>.inl hl⟩,.rfl⟩
      · split at hv
        · rename_i hn hcond
          obtain ⟨hlit,rfl,hbare⟩:=hcond
          simp at hv;obtain ⟨rfl,rfl⟩:=hv
          obtain ⟨μ',a1,a2,a3,a4,a5⟩:=anon_sound H (e:=e) hvs hbare
          refine lift ⟨_,_,hrun w,μ',a1,?_,a3,a4,a5⟩
          have:=VR.vals (μ:=μ') w.heap.size cs a2
          rw [hlen,Nat.mul_one] at this
          exact this
        · rename_i hn _
          simp at hv;obtain ⟨rfl,rfl⟩:=hv
          obtain ⟨p1,p2,p3,p4⟩:=push_cells (P:=P) (e:=e) (T:=e) (row:=true) H (c:=cs) (C:=C) (w':={ w with heap:=w.heap.push (.cells C e) }) ⟨rfl,rfl,rfl⟩ rfl (by omega) (fun i x y hx hy=>hvs.2 i x y hx (by rw [Array.getElem?_toList];exact hy)) _ rfl
          exact lift ⟨_,_,hrun w,_,p1,VR.row (r:=⟨h.length,0,0⟩) Mu.add_same rfl (by omega) (Nat.le_refl _) (Nat.le_refl _) (.inl rfl),p2,p3,p4⟩
    · cases hv
  case store t x y =>
    split at hv
    · rename_i r hr
      split at hv
      · rename_i ht
        cases hs:storeN base h r (ev fr y).cells with
        | none=>simp [hs] at hv
        | some h'' =>
          simp [hs] at hv;obtain ⟨rfl,rfl⟩:=hv
          have hx:=E x
          rw [hr] at hx
          generalize a.eval x=X at hx ⊢
          cases hx with
          | ptr _ L hL =>
            cases hty:tyA P t with
            | none=>simp [hty] at ht
            | some q =>
              obtain ⟨d,i,hd,hi,rfl⟩:=tyA_inv hty
              simp [hty] at ht
              have hyn:ev fr y ≠ .none:=by
                intro e0
                rw [e0] at hs
                obtain ⟨_,_,_,_,_,h2,_⟩:=storeN_inv hs
                simp [AVal.cells,AVal.scalar] at h2
              have hcells:=(E y).cells hyn
              refine skip rfl ?_
              obtain ⟨w',s1,s2,s3⟩:=storeN_sound H hs hL hcells
              refine ⟨w',?_,s2,s3⟩
              have hlen:(a.eval y).cells.size=i.size:=by have:=hcells.1;simp at this;omega
              simp only [Instr.storeAt,Instr.sureAddr,Sem.run_bind,Sem.run_pure,Result.andThen_ok,storeVar,run_sizeOf' hi]
              rw [if_neg (by simp [hlen])]
              exact s1
      · cases hv
    · cases hv
  case makeSlice t l c=>exact lift (makeSliceA_sound H hv (E l) (E c))
  case makeMap t r =>
    cases r with
    | some r=>simp at hv
    | none =>
      cases hm:mpT P t with
      | none=>simp [hm] at hv
      | some q =>
        simp [hm] at hv;obtain ⟨rfl,rfl⟩:=hv
        refine lift ⟨.map (some w.heap.size),{ w with heap:=w.heap.push (.map #[] 0) },by simp [Instr.makeMap],?_⟩
        obtain ⟨p1,p2,p3,p4⟩:=HRel.push (P:=P) (b:=⟨.map [],0⟩) (w':={ w with heap:=w.heap.push (.map #[] 0) }) (L:=⟨w.heap.size,0,0,0⟩) H rfl ⟨rfl,rfl,rfl⟩
          (fun k hk=>by simp only [Array.getElem?_push];rw [if_neg (by omega)]) (Nat.le_refl _) (by simp) ⟨#[],0,by simp,⟨rfl,fun i k v e h=>by simp at h⟩,rfl⟩
        exact ⟨_,p1,.map h.length ⟨w.heap.size,0,0,0⟩ Mu.add_same,p2,p3,p4⟩
  case mapUpdate t m k x =>
    cases hu:mapUpdateA P base h t (ev fr m) (ev fr k) (ev fr x) with
    | none=>simp [hu] at hv
    | some h'' =>
      simp [hu] at hv;obtain ⟨rfl,rfl⟩:=hv
      exact skip rfl (mapUpdateA_sound H hu (E m) (E k) (E x))
  case insert t m k x =>
    cases hu:mapUpdateA P base h t (ev fr m) (ev fr k) (ev fr x) with
    | none=>simp [hu] at hv
    | some h'' =>
      simp [hu] at hv;obtain ⟨rfl,rfl⟩:=hv
      exact skip rfl (mapUpdateA_sound H hu (E m) (E k) (E x))
end
end Go.AM
namespace Go.AM
def SubB:ABody→ABody→Prop
  | .cells c _ _ _,.cells c' _ _ _=>∀ x ∈ c',x.bare=true ∨ x ∈ c
  | .map es,.map es'=>(∀ x ∈ es'.map (·.1),x.bare=true ∨ x ∈ es.map (·.1))∧(∀ x ∈ es'.map (·.2),x.bare=true ∨ x ∈ es.map (·.2))
  | .loop L,.loop L'=>L'.fr=L.fr
  | _,_=>False
theorem SubB.rfl:∀ {b:ABody},SubB b b
  | .cells _ _ _ _=>fun _ hx=>.inr hx
  | .map _=>⟨fun _ hx=>.inr hx,fun _ hx=>.inr hx⟩
  | .loop _=>_root_.rfl
theorem SubB.trans:∀ {a b c:ABody},SubB a b→SubB b c→SubB a c
  | .cells _ _ _ _,.cells _ _ _ _,.cells _ _ _ _,h,k=>fun x hx=>(k x hx).elim .inl (h x)
  | .map _,.map _,.map _,h,k=>⟨fun x hx=>(k.1 x hx).elim .inl (h.1 x),fun x hx=>(k.2 x hx).elim .inl (h.2 x)⟩
  | .loop _,.loop _,.loop _,h,k=>Eq.trans k h
def Grow (base:Nat) (h h':Heap):Prop:=h.length≤h'.length∧(∀ id,id<base→∀ b',h'[id]?=some b'→∃ b,h[id]?=some b∧SubB b.body b'.body∧b.ver≤b'.ver) ∧
  (∀ (id:Nat) b b',h[id]?=some b→h'[id]?=some b'→b.ver≤b'.ver)∧∀ (id:Nat) b',h'[id]?=some b'→b'.body.wr=false→h[id]?=some b'
theorem Grow.rfl {base:Nat} {h:Heap}:Grow base h h:=⟨Nat.le_refl _,fun _ _ b hb=>⟨b,hb,.rfl,Nat.le_refl _⟩,fun id b b' hb hb'=>by rw [hb] at hb';cases hb';exact Nat.le_refl _,fun _ _ h _=>h⟩
theorem Grow.trans {base:Nat} {a b c:Heap} (h:Grow base a b) (k:Grow base b c):Grow base a c :=
  ⟨Nat.le_trans h.1 k.1,fun id hid x hx=>by
    obtain ⟨y,hy,s1,v1⟩:=k.2.1 id hid x hx
    obtain ⟨z,hz,s2,v2⟩:=h.2.1 id hid y hy
    exact ⟨z,hz,s2.trans s1,Nat.le_trans v2 v1⟩,fun id x z hx hz=>by
    have hlt:id<b.length:=Nat.lt_of_lt_of_le (lt_of_get hx) h.1
    exact Nat.le_trans (h.2.2.1 id x _ hx (List.getElem?_eq_getElem hlt)) (k.2.2.1 id _ z (List.getElem?_eq_getElem hlt) hz),fun id x hx hw=>h.2.2.2 id x (k.2.2.2 id x hx hw) hw⟩
theorem Grow.mono {base base':Nat} {h h':Heap} (hg:Grow base' h h') (hb:base≤base'):Grow base h h':=⟨hg.1,fun id hid=>hg.2.1 id (Nat.lt_of_lt_of_le hid hb),hg.2.2⟩
theorem Grow.app {base:Nat} {h t:Heap} (hb:base≤h.length) (ht:∀ b ∈ t,b.body.wr=true):Grow base h (h++t):=by
  refine ⟨by simp,fun id hid b' hb'=>⟨b',?_,.rfl,Nat.le_refl _⟩,fun id b b' h1 h2=>?_,fun id b h1 h2=>?_⟩
  · rwa [List.getElem?_append_left (by omega)] at hb'
  · rw [List.getElem?_append_left (lt_of_get h1),h1] at h2
    cases h2;exact Nat.le_refl _
  · rcases Nat.lt_or_ge id h.length with hi|hi
    · rwa [List.getElem?_append_left hi] at h1
    · rw [List.getElem?_append_right hi] at h1
      rw [ht b (List.mem_of_getElem? h1)] at h2;cases h2
theorem Grow.push {base:Nat} {h:Heap} {b:ABlk} (hb:base≤h.length) (hw:b.body.wr=true:=by rfl):Grow base h (h++[b]):=.app hb (by simpa using hw)
theorem Grow.set {base id:Nat} {h:Heap} {b b':ABlk} (hb:h[id]?=some b) (hs:id<base→SubB b.body b'.body) (hv:b.ver≤b'.ver) (hw:b'.body.wr=true:=by rfl):Grow base h (h.set id b'):=by
  refine ⟨by simp,fun i hi c hc=>?_,fun i c d hc hd=>?_,fun i c hc hn=>?_⟩
  · rcases get_set_inv hc with ⟨rfl,rfl⟩|⟨hne,hc⟩
    · exact ⟨b,hb,hs hi,hv⟩
    · exact ⟨c,hc,.rfl,Nat.le_refl _⟩
  · rcases get_set_inv hd with ⟨rfl,rfl⟩|⟨hne,hd⟩
    · rw [hb] at hc;cases hc;exact hv
    · rw [hc] at hd;cases hd;exact Nat.le_refl _
  · rcases get_set_inv hc with ⟨rfl,rfl⟩|⟨hne,hc⟩
    · rw [hw] at hn;cases hn
    · exact hc
theorem splice_mem:∀ (vs c:List AVal) (off:Nat) (x:AVal),x ∈ splice c off vs→x ∈ vs ∨ x ∈ c
  | [],c,off,x,h=>.inr h
  | v :: vs,c,off,x,h=>by
    simp only [splice] at h
    rcases splice_mem vs _ _ x h with h|h
    · exact .inl (by simp [h])
    · rcases List.mem_or_eq_of_mem_set h with h|h
      · exact .inr h
      · exact .inl (by simp [h])
theorem storeN_grow {base:Nat} {h h':Heap} {r:ARef} {vs:List AVal} (hs:storeN base h r vs=some h'):Grow base h h':=by
  obtain ⟨c,e,row,hb,h1,h2,h3,rfl⟩:=storeN_inv hs
  refine Grow.set hb (fun hid=>?_) (Nat.le_refl _)
  rcases h3 with h3|h3
  · omega
  · intro x hx
    rcases splice_mem _ _ _ _ hx with hx|hx
    · exact .inl (List.all_eq_true.1 h3 x hx)
    · exact .inr hx
section
variable {P:Program} {base:Nat} {h h':Heap}
theorem appendA_grow (hb:base≤h.length) {t:TypeId} {s x v:AVal} (hv:appendA P base h t s x=some (v,h')):Grow base h h':=by
  unfold appendA at hv
  split at hv
  · cases hv
  · split at hv
    · cases hv
    · split at hv
      · cases hv
      · split at hv
        · split at hv
          · split at hv
            · simp at hv;obtain ⟨_,rfl⟩:=hv;exact .rfl
            · split at hv
              · simp at hv;obtain ⟨_,rfl⟩:=hv;exact .push hb
              · cases hv
          · split at hv
            · simp at hv;obtain ⟨_,rfl⟩:=hv;exact .rfl
            · split at hv
              · simp at hv;obtain ⟨_,rfl⟩:=hv;exact .push hb
              · cases hv
          · split at hv
            · split at hv
              · rename_i h'' hst
                simp at hv;obtain ⟨_,rfl⟩:=hv;exact storeN_grow hst
              · cases hv
            · split at hv
              · rename_i c e2 ver hbk
                split at hv
                · rename_i hcond
                  obtain ⟨rfl,_,_,_,_,_,hbase⟩:=hcond
                  simp at hv;obtain ⟨_,rfl⟩:=hv
                  refine Grow.set hbk (fun hid=>?_) (Nat.le_succ _)
                  rcases hbase with h3|h3
                  · omega
                  · intro y hy
                    rcases List.mem_append.1 hy with hy|hy
                    · exact .inr (List.mem_of_mem_take hy)
                    · exact .inl (List.all_eq_true.1 h3 y hy)
                · cases hv
              · cases hv
          · cases hv
        · cases hv
theorem builtinA_grow (hb:base≤h.length) {b:Builtin} {ts:List TypeId} {args:List AVal} {v:AVal} (hv:builtinA P base h b ts args=some (v,h')):Grow base h h':=by
  unfold builtinA at hv
  split at hv
  · rename_i t _ x
    cases hr:lenOpA P h t x with
    | none=>simp [hr] at hv
    | some r=>simp [hr] at hv;obtain ⟨_,rfl⟩:=hv;exact .rfl
  · split at hv
    · cases hv
    · exact appendA_grow hb hv
  · unfold copyA at hv
    split at hv
    · split at hv
      · cases hv
      · split at hv
        · cases hv
        · split at hv
          · simp at hv;obtain ⟨_,rfl⟩:=hv;exact .rfl
          · split at hv
            · rename_i h'' hst
              simp at hv;obtain ⟨_,rfl⟩:=hv;exact storeN_grow hst
            · cases hv
    · cases hv
  · unfold clearA at hv
    split at hv
    · simp at hv;obtain ⟨_,rfl⟩:=hv;exact .rfl
    · simp at hv;obtain ⟨_,rfl⟩:=hv;exact .rfl
    · simp at hv;obtain ⟨_,rfl⟩:=hv;exact .rfl
    · split at hv
      · rename_i h'' hst
        simp at hv;obtain ⟨_,rfl⟩:=hv;exact storeN_grow hst
      · cases hv
    · cases hv
  · rename_i x xs
    cases hr:minmax false x xs with
    | none=>simp [hr] at hv
    | some r=>simp [hr] at hv;obtain ⟨_,rfl⟩:=hv;exact .rfl
  · rename_i x xs
    cases hr:minmax true x xs with
    | none=>simp [hr] at hv
    | some r=>simp [hr] at hv;obtain ⟨_,rfl⟩:=hv;exact .rfl
  · rename_i t _ x
    cases hr:capA P t x with
    | none=>simp [hr] at hv
    | some r=>simp [hr] at hv;obtain ⟨_,rfl⟩:=hv;exact .rfl
  · cases hv
theorem mapUpdateA_grow {t:TypeId} {m k x:AVal} (hv:mapUpdateA P base h t m k x=some h'):Grow base h h':=by
  unfold mapUpdateA at hv
  split at hv
  · split at hv
    · rename_i es hr
      split at hv
      · rename_i hcond
        obtain ⟨_,hbase⟩:=hcond
        split at hv
        · split at hv
          · simp at hv;subst hv
            refine Grow.set hr (fun hid=>?_) (Nat.le_refl _)
            rcases hbase with h3|⟨hk,hx⟩
            · omega
            · constructor
              · intro y hy
                obtain ⟨p,hp,rfl⟩:=List.mem_map.1 hy
                rcases List.mem_or_eq_of_mem_set hp with hp|rfl
                · exact .inr (List.mem_map.2 ⟨p,hp,rfl⟩)
                · exact .inl hk
              · intro y hy
                obtain ⟨p,hp,rfl⟩:=List.mem_map.1 hy
                rcases List.mem_or_eq_of_mem_set hp with hp|rfl
                · exact .inr (List.mem_map.2 ⟨p,hp,rfl⟩)
                · exact .inl hx
          · cases hv
        · simp at hv;subst hv
          refine Grow.set hr (fun hid=>?_) (Nat.le_refl _)
          rcases hbase with h3|⟨hk,hx⟩
          · omega
          · constructor
            · intro y hy
              simp only [List.map_append,List.map_cons,List.map_nil,List.mem_append,List.mem_singleton] at hy
              rcases hy with hy|rfl
              · exact .inr hy
              · exact .inl hk
            · intro y hy
              simp only [List.map_append,List.map_cons,List.map_nil,List.mem_append,List.mem_singleton] at hy
              rcases hy with hy|rfl
              · exact .inr hy
              · exact .inl hx
        · cases hv
      · cases hv
    · cases hv
  · cases hv
theorem memA_grow (hb:base≤h.length) {lit:Bool} {fr:AFrame} {o:Op} {v:AVal} (hv:memA P base lit fr h o=some (v,h')):Grow base h h':=by
  cases o<;>simp only [memA] at hv<;>(first|(cases hv;done)|skip)
  case alloc t =>
    cases hz:zc P t with
    | none=>simp [hz] at hv
    | some z=>simp [hz] at hv;obtain ⟨_,rfl⟩:=hv;exact .push hb
  case box t x =>
    split at hv
    · cases hv
    · simp at hv;obtain ⟨_,rfl⟩:=hv;exact .push hb
  case buildSlice t n parts =>
    split at hv
    · split at hv
      · simp at hv;obtain ⟨_,rfl⟩:=hv;exact .rfl
      · split at hv
        · simp at hv;obtain ⟨_,rfl⟩:=hv;exact .rfl
        · simp at hv;obtain ⟨_,rfl⟩:=hv;exact .push hb
    · cases hv
  case store t x y =>
    split at hv
    · rename_i r hr
      split at hv
      · cases hs:storeN base h r (ev fr y).cells with
        | none=>simp [hs] at hv
        | some h''=>simp [hs] at hv;obtain ⟨_,rfl⟩:=hv;exact storeN_grow hs
      · cases hv
    · cases hv
  case makeSlice t l c =>
    unfold makeSliceA at hv
    split at hv
    · split at hv
      · split at hv
        · simp at hv;obtain ⟨_,rfl⟩:=hv;exact .rfl
        · simp at hv;obtain ⟨_,rfl⟩:=hv;exact .push hb
      · cases hv
    · cases hv
  case makeMap t r =>
    cases r with
    | some r=>simp at hv
    | none =>
      cases hm:mpT P t with
      | none=>simp [hm] at hv
      | some q=>simp [hm] at hv;obtain ⟨_,rfl⟩:=hv;exact .push hb
  case mapUpdate t m k x =>
    cases hu:mapUpdateA P base h t (ev fr m) (ev fr k) (ev fr x) with
    | none=>simp [hu] at hv
    | some h''=>simp [hu] at hv;obtain ⟨_,rfl⟩:=hv;exact mapUpdateA_grow hu
  case insert t m k x =>
    cases hu:mapUpdateA P base h t (ev fr m) (ev fr k) (ev fr x) with
    | none=>simp [hu] at hv
    | some h''=>simp [hu] at hv;obtain ⟨_,rfl⟩:=hv;exact mapUpdateA_grow hu
end
end Go.AM
namespace Go.AM
theorem renL_length (f:Nat→Nat→Nat × Nat):∀ (l:List AVal),(renL f l).length=l.length
  | []=>rfl
  | x :: xs=>by simp [renL,renL_length f xs]
theorem renL_get (f:Nat→Nat→Nat × Nat):∀ (l:List AVal) (i:Nat),(renL f l)[i]?=(l[i]?).map (·.ren f)
  | [],i=>by simp [renL]
  | x :: xs,0=>by simp [renL]
  | x :: xs,i+1=>by simp [renL,renL_get f xs i]
section
variable {P:Program} {μ μ':Mu} {h:Heap} {w:World}
theorem VR.keep {base:Nat} (hloc:∀ id v L,id<base→μ.loc id v=some L→μ'.loc id v=some L) (hanon:∀ b l,μ.anon b=some l→(∀ r ∈ refsL l,r.1<base)→μ'.anon b=some l)
    {x:AVal} {X:Value} (hx:VR μ x X) (hr:∀ r ∈ x.refs,r.1<base):VR μ' x X:=by
  induction hx with
  | none v=>exact .none v
  | bool b=>exact .bool b
  | int k n=>exact .int k n
  | str s=>exact .str s
  | ptrN=>exact .ptrN
  | ptr r L h=>exact .ptr r L (hloc _ _ _ (hr (r.id,r.ver) (by simp [AVal.refs])) h)
  | sliceN=>exact .sliceN
  | slice0 r a C=>exact .slice0 r a C
  | slice r L n k C h hk hn hc hl=>exact .slice r L n k C (hloc _ _ _ (hr (r.id,r.ver) (by simp [AVal.refs];omega)) h) hk hn hc hl
  | emp a=>exact .emp a
  | vals b l h=>exact .vals b l (hanon b l h (by simpa [AVal.refs] using hr))
  | mapN=>exact .mapN
  | map r L h=>exact .map r L (hloc _ _ _ (hr (r,0) (by simp [AVal.refs])) h)
  | fn f a b A B ha hb h1 h2 ih1 ih2 =>
    refine .fn f a b A B ha hb (fun i x y hx hy=>ih1 i x y hx hy fun r hr'=>hr r ?_) (fun i x y hx hy=>ih2 i x y hx hy fun r hr'=>hr r ?_)
    · simp only [AVal.refs,List.mem_append];exact .inl (mem_refsL (List.mem_of_getElem? hx) hr')
    · simp only [AVal.refs,List.mem_append];exact .inr (mem_refsL (List.mem_of_getElem? hx) hr')
  | yld l L h=>exact .yld l L (hloc _ _ _ (hr (l,0) (by simp [AVal.refs])) h)
  | nilFn=>exact .nilFn
  | atl lo n h=>exact .atl lo n h
  | agg a A ha h1 ih=>exact .agg a A ha fun i x y hx hy=>ih i x y hx hy fun r hr'=>hr r (by simp only [AVal.refs];exact mem_refsL (List.mem_of_getElem? hx) hr')
  | tuple a A ha h1 ih=>exact .tuple a A ha fun i x y hx hy=>ih i x y hx hy fun r hr'=>hr r (by simp only [AVal.refs];exact mem_refsL (List.mem_of_getElem? hx) hr')
theorem VR.ren {f:Nat→Nat→Nat × Nat} {x:AVal} {X:Value} (hx:VR μ x X) (hr:∀ r ∈ x.refs,∀ L,μ.loc r.1 r.2=some L→μ'.loc (f r.1 r.2).1 (f r.1 r.2).2=some L) (h0:∀ id,(id,0) ∈ x.refs→(f id 0).2=0) :
    VR μ' (x.ren f) X:=by
  induction hx with
  | none v=>exact .none v
  | bool b=>exact .bool b
  | int k n=>exact .int k n
  | str s=>exact .str s
  | ptrN=>exact .ptrN
  | ptr r L h=>exact .ptr ⟨_,_,r.off⟩ L (hr (r.id,r.ver) (by simp [AVal.refs]) L h)
  | sliceN=>exact .sliceN
  | slice0 r a C=>exact .slice0 _ a C
  | slice r L n k C h hk hn hc hl=>exact .slice ⟨_,_,r.off⟩ L n k C (hr (r.id,r.ver) (by simp [AVal.refs];omega) L h) hk hn hc hl
  | emp a=>exact .emp a
  | vals b l h=>exact .none _
  | mapN=>exact .mapN
  | map r L h =>
    have:=hr (r,0) (by simp [AVal.refs]) L h
    rw [h0 r (by simp [AVal.refs])] at this
    exact .map _ L this
  | fn f' a b A B ha hb h1 h2 ih1 ih2 =>
    refine .fn f' _ _ A B (by rw [renL_length];exact ha) (by rw [renL_length];exact hb) (fun i x y hx hy=>?_) (fun i x y hx hy=>?_)
    · rw [renL_get] at hx
      obtain ⟨x',hx',rfl⟩:=Option.map_eq_some_iff.1 hx
      have hm:=List.mem_of_getElem? hx'
      exact ih1 i x' y hx' hy (fun r hr'=>hr r (by simp only [AVal.refs,List.mem_append];exact .inl (mem_refsL hm hr'))) (fun id hid=>h0 id (by simp only [AVal.refs,List.mem_append];exact .inl (mem_refsL hm hid)))
    · rw [renL_get] at hx
      obtain ⟨x',hx',rfl⟩:=Option.map_eq_some_iff.1 hx
      have hm:=List.mem_of_getElem? hx'
      exact ih2 i x' y hx' hy (fun r hr'=>hr r (by simp only [AVal.refs,List.mem_append];exact .inr (mem_refsL hm hr'))) (fun id hid=>h0 id (by simp only [AVal.refs,List.mem_append];exact .inr (mem_refsL hm hid)))
  | yld l L h =>
    have:=hr (l,0) (by simp [AVal.refs]) L h
    rw [h0 l (by simp [AVal.refs])] at this
    exact .yld _ L this
  | nilFn=>exact .nilFn
  | atl lo n h=>exact .atl lo n h
  | agg a A ha h1 ih =>
    refine .agg _ A (by rw [renL_length];exact ha) fun i x y hx hy=>?_
    rw [renL_get] at hx
    obtain ⟨x',hx',rfl⟩:=Option.map_eq_some_iff.1 hx
    have hm:=List.mem_of_getElem? hx'
    exact ih i x' y hx' hy (fun r hr'=>hr r (by simp only [AVal.refs];exact mem_refsL hm hr')) (fun id hid=>h0 id (by simp only [AVal.refs];exact mem_refsL hm hid))
  | tuple a A ha h1 ih =>
    refine .tuple _ A (by rw [renL_length];exact ha) fun i x y hx hy=>?_
    rw [renL_get] at hx
    obtain ⟨x',hx',rfl⟩:=Option.map_eq_some_iff.1 hx
    have hm:=List.mem_of_getElem? hx'
    exact ih i x' y hx' hy (fun r hr'=>hr r (by simp only [AVal.refs];exact mem_refsL hm hr')) (fun id hid=>h0 id (by simp only [AVal.refs];exact mem_refsL hm hid))
theorem idxOf_get {l:List Nat} {i:Nat} (hi:i ∈ l):l[l.idxOf i]?=some i:=by
  have hlt:=List.idxOf_lt_length_of_mem hi
  rw [List.getElem?_eq_getElem hlt,List.getElem_idxOf]
theorem compact_sound {base':Nat} {μ0 μ1:Mu} {h0 h1 h2:Heap} {w0 w1:World} (H0:HRel P μ0 h0 w0) (H1:HRel P μ1 h1 w1) (hle:μ0.le μ1) (hev:Evo μ0 h0 w0 μ1 h1 w1) (hfr:Fresh h0.length μ0 h0 μ1)
    (hg:Grow h0.length h0 h1) {v v':AVal} {V:Value} (hv:VR μ1 v V) {ids:List Nat} (hc:compactBy ids h0.length v h1=some (v',h2)):Fine P base' μ0 h0 w0 v' h2 V w1:=by
  unfold compactBy at hc
  split at hc
  · rename_i hcond
    obtain ⟨c1,c2,c3,c4⟩:=hcond
    simp at hc
    obtain ⟨rfl,rfl⟩:=hc
    -- what is kept
    have kept:∀ i ∈ ids,h0.length≤i∧∃ b,h1[i]?=some b∧b.body.isLoop=false∧∀ r ∈ b.body.refs,keptRef h1 h0.length ids r=true:=by
      intro i hi
      have:=List.all_eq_true.1 c4 i hi
      simp only [Bool.and_eq_true,decide_eq_true_eq] at this
      obtain ⟨k1,k2⟩:=this
      split at k2
      · rename_i b hb
        simp at k2
        exact ⟨k1,b,hb,k2.1,fun r hr=>k2.2 _ _ hr⟩
      · cases k2
    let ver:Nat→Nat:=fun i=>match h1[i]? with|some b=>b.ver|.none=>0
    let μ2:Mu:={ loc:=fun id v=>if id<h0.length then μ1.loc id v else match ids[id-h0.length]? with|some i=>if v=0 then μ1.loc i (ver i) else .none|.none=>.none,
                     anon:=μ1.anon }
    let blkOf:Nat→ABlk:=fun i=>match h1[i]? with|some b=>⟨b.body.ren (newId h0.length ids),0⟩|.none=>⟨.map [],0⟩
    show Fine P base' μ0 h0 w0 _ (h1.take h0.length++ids.map blkOf) V w1
    have hlen:(h1.take h0.length).length=h0.length:=by simp;omega
    have get_lo:∀ {i:Nat},i<h0.length→(h1.take h0.length++ids.map blkOf)[i]?=h1[i]?:=by
      intro i hi
      rw [List.getElem?_append_left (by omega),List.getElem?_take,if_pos hi]
    have get_hi:∀ {i:Nat} {b:ABlk},h0.length≤i→(h1.take h0.length++ids.map blkOf)[i]?=some b→∃ j c,ids[i-h0.length]?=some j∧h1[j]?=some c∧c.body.isLoop=false∧(∀ r ∈ c.body.refs,keptRef h1 h0.length ids r=true)∧h0.length≤j∧b=⟨c.body.ren (newId h0.length ids),0⟩:=by
      intro i b hi hb
      rw [List.getElem?_append_right (by omega),hlen,List.getElem?_map] at hb
      obtain ⟨j,hj,rfl⟩:=Option.map_eq_some_iff.1 hb
      obtain ⟨k1,c,hc,k2,k3⟩:=kept j (List.mem_of_getElem? hj)
      exact ⟨j,c,hj,hc,k2,k3,k1,by simp [blkOf,hc]⟩
    have loc_lo:∀ {id v:Nat},id<h0.length→μ2.loc id v=μ1.loc id v:=by intro id v hid;simp [μ2,hid]
    have loc_hi:∀ {id j:Nat} {c:ABlk},h0.length≤id→ids[id-h0.length]?=some j→h1[j]?=some c→μ2.loc id 0=μ1.loc j c.ver:=by
      intro id j c hid hj hc
      simp only [μ2]
      rw [if_neg (by omega),hj]
      simp [ver,hc]
    -- a reference that is kept
    have refOk:∀ r,keptRef h1 h0.length ids r=true→∀ L,μ1.loc r.1 r.2=some L→μ2.loc (newId h0.length ids r.1 r.2).1 (newId h0.length ids r.1 r.2).2=some L:=by
      intro r hr L hL
      simp only [keptRef,Bool.or_eq_true,decide_eq_true_eq,Bool.and_eq_true,beq_iff_eq,List.contains_iff_mem] at hr
      unfold newId
      by_cases hid:r.1<h0.length
      · rw [if_pos hid];rw [loc_lo hid];exact hL
      · rw [if_neg hid]
        rcases hr with hr|⟨h1',h2'⟩
        · exact absurd hr hid
        · obtain ⟨c,hc,hcv⟩:=Option.map_eq_some_iff.1 h2'
          rw [loc_hi (j:=r.1) (c:=c) (by omega) (by rw [Nat.add_sub_cancel_left];exact idxOf_get h1') hc,hcv]
          exact hL
    have ver0:∀ id,(newId h0.length ids id 0).2=0:=by intro id;unfold newId;split<;>rfl
    have anonOk:∀ b l,μ1.anon b=some l→(∀ r ∈ refsL l,r.1<h0.length)→μ2.anon b=some l:=fun b l hb _=>hb
    have valOk:∀ {x:AVal} {X:Value},VR μ1 x X→(∀ r ∈ x.refs,keptRef h1 h0.length ids r=true)→VR μ2 (x.ren (newId h0.length ids)) X :=
      fun hx hr=>hx.ren (fun r hr' L hL=>refOk r (hr r hr') L hL) (fun id _=>ver0 id)
    have oldOk:∀ {x:AVal} {X:Value},VR μ1 x X→(∀ r ∈ x.refs,r.1<h0.length)→VR μ2 x X :=
      fun hx hr=>hx.keep (fun id v L hid hL=>by rw [loc_lo hid];exact hL) anonOk hr
    have lt0:∀ {r:Nat × Nat},(∃ L,μ0.loc r.1 r.2=some L)→r.1<h0.length:=by
      rintro r ⟨L,hL⟩
      obtain ⟨b,hb,_⟩:=H0.dom _ _ L hL
      exact lt_of_get hb
    have bareOk:∀ {x:AVal},x.bare=true→∀ r ∈ x.refs,r.1<h0.length:=by
      intro x hx r hr;rw [bare_refs hx] at hr;cases hr
    -- a block below the base that has a place had one before
    have was:∀ {id:Nat} {b1:ABlk} {L:Loc},id<h0.length→h1[id]?=some b1→μ1.loc id b1.ver=some L→∃ b,h0[id]?=some b∧SubB b.body b1.body∧∃ M,μ0.loc id b.ver=some M:=by
      intro id b1 L hid hb1 hL
      obtain ⟨b,hb,hs,_⟩:=hg.2.1 id hid b1 hb1
      refine ⟨b,hb,hs,?_⟩
      rcases hfr id _ L hL with h|h|⟨b',hb',_,h⟩
      · exact H0.cur id _ L b h hb
      · omega
      · rw [hb] at hb';cases hb'
        rcases h with h|h
        · omega
        · exact h
    have refs0:∀ {x:AVal} {X:Value},VR μ0 x X→∀ r ∈ x.refs,r.1<h0.length:=fun hx r hr=>lt0 (hx.refs_dom H0.adom r hr)
    have blkLo:∀ {id:Nat} {b1:ABlk} {L:Loc},id<h0.length→h1[id]?=some b1→μ1.loc id b1.ver=some L→BR P μ2 b1.body L w1:=by
      intro id b1 L hid hb1 hL
      obtain ⟨b,hb,hs,M,hM⟩:=was hid hb1 hL
      have B0:=H0.blk id b M hb hM
      have B1:=H1.blk id b1 L hb1 hL
      cases hbody:b.body<;>cases hbody1:b1.body<;>rw [hbody,hbody1] at hs<;>(first|(exact hs.elim)|skip)<;>rw [hbody] at B0<;>rw [hbody1] at B1
      · obtain ⟨C0,T0,fz0,a1,a2,a3,a4,_,_⟩:=B0
        obtain ⟨C,T,fz,k1,k2,k3,k4,k5,k6⟩:=B1
        refine ⟨C,T,fz,k1,k2,k3,fun i x y hx hy=>oldOk (k4 i x y hx hy) ?_,k5,k6⟩
        rcases hs x (List.mem_of_getElem? hx) with hb'|hm
        · exact bareOk hb'
        · obtain ⟨j,hj,rfl⟩:=List.mem_iff_getElem.1 hm
          exact refs0 (a4 j _ C0[M.base+j] (List.getElem?_eq_getElem hj) (Array.getElem?_eq_getElem (by omega)))
      · obtain ⟨E0,cl0,a1,a2,_⟩:=B0
        obtain ⟨E,cl,k1,k2,k3⟩:=B1
        refine ⟨E,cl,k1,⟨k2.1,fun i k v e hk he=>?_⟩,k3⟩
        obtain ⟨q1,q2,q3⟩:=k2.2 i k v e hk he
        have hm:=List.mem_of_getElem? hk
        refine ⟨oldOk q1 ?_,oldOk q2 ?_,q3⟩
        · rcases hs.1 k (List.mem_map.2 ⟨_,hm,rfl⟩) with hb'|hm'
          · exact bareOk hb'
          · obtain ⟨p,hp,rfl⟩:=List.mem_map.1 hm'
            obtain ⟨j,hj,rfl⟩:=List.mem_iff_getElem.1 hp
            exact refs0 (a2.2 j _ _ _ (List.getElem?_eq_getElem hj) (Array.getElem?_eq_getElem (a2.1 ▸ hj))).1
        · rcases hs.2 v (List.mem_map.2 ⟨_,hm,rfl⟩) with hb'|hm'
          · exact bareOk hb'
          · obtain ⟨p,hp,rfl⟩:=List.mem_map.1 hm'
            obtain ⟨j,hj,rfl⟩:=List.mem_iff_getElem.1 hp
            exact refs0 (a2.2 j _ _ _ (List.getElem?_eq_getElem hj) (Array.getElem?_eq_getElem (a2.1 ▸ hj))).2.1
      · obtain ⟨l0,a1,a2,a3,a4,a5,a6,a7,_⟩:=B0
        obtain ⟨l,k1,k2,k3,k4,k5,k6,k7,k8⟩:=B1
        have hs':_=_:=hs
        exact ⟨l,k1,k2,k3,k4,k5,k6,fun t=>oldOk (k7 t) (by rw [hs'];exact refs0 (a7 t)),k8⟩
    have blkHi:∀ {j:Nat} {c:ABlk} {L:Loc},h1[j]?=some c→c.body.isLoop=false→(∀ r ∈ c.body.refs,keptRef h1 h0.length ids r=true)→μ1.loc j c.ver=some L→BR P μ2 (c.body.ren (newId h0.length ids)) L w1:=by
      intro j c L hc hl hr hL
      have B1:=H1.blk j c L hc hL
      cases hbody:c.body<;>rw [hbody] at B1 hr hl
      · obtain ⟨C,T,fz,k1,k2,k3,k4,k5,k6⟩:=B1
        refine ⟨C,T,fz,k1,by rw [renL_length];exact k2,k3,fun i x y hx hy=>?_,k5,k6⟩
        rw [renL_get] at hx
        obtain ⟨x',hx',rfl⟩:=Option.map_eq_some_iff.1 hx
        exact valOk (k4 i x' y hx' hy) fun r hr'=>hr r (by simp only [ABody.refs];exact mem_refsL (List.mem_of_getElem? hx') hr')
      · obtain ⟨E,cl,k1,k2,k3⟩:=B1
        refine ⟨E,cl,k1,⟨by simp [k2.1],fun i k v e hk he=>?_⟩,k3⟩
        simp only [List.getElem?_map] at hk
        obtain ⟨⟨k',v'⟩,hk',hkv⟩:=Option.map_eq_some_iff.1 hk
        simp at hkv
        obtain ⟨rfl,rfl⟩:=hkv
        obtain ⟨q1,q2,q3⟩:=k2.2 i k' v' e hk' he
        have hm:=List.mem_of_getElem? hk'
        exact ⟨valOk q1 fun r hr'=>hr r (by simp only [ABody.refs,List.mem_append];exact .inl (mem_refsL (List.mem_map.2 ⟨_,hm,rfl⟩) hr')),
          valOk q2 fun r hr'=>hr r (by simp only [ABody.refs,List.mem_append];exact .inr (mem_refsL (List.mem_map.2 ⟨_,hm,rfl⟩) hr')),q3⟩
      · simp [ABody.isLoop] at hl
    have wrRen:∀ (b:ABody),(b.ren (newId h0.length ids)).wr=b.wr:=by intro b;cases b<;>rfl
    -- each block of the new heap,and the old one that it is
    have orig:∀ {i:Nat} {b:ABlk} {L:Loc},(h1.take h0.length++ids.map blkOf)[i]?=some b→μ2.loc i b.ver=some L →
        ∃ j c,h1[j]?=some c∧μ1.loc j c.ver=some L∧c.body.wr=b.body.wr∧BR P μ2 b.body L w1∧((i<h0.length∧j=i) ∨ (h0.length≤i∧h0.length≤j∧ids[i-h0.length]?=some j)):=by
      intro i b L hb hL
      rcases Nat.lt_or_ge i h0.length with hi|hi
      · rw [get_lo hi] at hb
        rw [loc_lo hi] at hL
        exact ⟨i,b,hb,hL,rfl,blkLo hi hb hL,.inl ⟨hi,rfl⟩⟩
      · obtain ⟨j,c,hj,hc,k1,k2,k3,rfl⟩:=get_hi hi hb
        simp only at hL
        rw [loc_hi hi hj hc] at hL
        exact ⟨j,c,hc,hL,(wrRen _).symm,blkHi hc k1 k2 hL,.inr ⟨hi,k3,hj⟩⟩
    refine ⟨μ2,⟨fun id v L hL=>?_,fun b l hb=>?_⟩,valOk hv (fun r hr=>List.all_eq_true.1 c1 r hr),⟨fun id v L hL=>?_,fun id b L hb hL=>?_,fun i j b c L M hij hb hc hL hM hwr=>?_,fun id v L b hL hb=>?_,fun b l hb=>?_,fun b l hb=>?_⟩,⟨hev.size,hev.os,hev.tape,hev.output,fun b hb hn=>?_,fun b l hl=>hev.anew b l hl⟩,fun id v L hL=>?_⟩
    · have:=lt0 (r:=(id,v)) ⟨L,hL⟩
      rw [loc_lo this];exact hle.loc _ _ _ hL
    · exact hle.anon _ _ hb
    · rcases Nat.lt_or_ge id h0.length with hi|hi
      · rw [loc_lo hi] at hL
        obtain ⟨b,h1',h2',h3'⟩:=H1.dom id v L hL
        exact ⟨b,by rw [get_lo hi];exact h1',h2',h3'⟩
      · simp only [μ2] at hL
        rw [if_neg (by omega)] at hL
        split at hL
        · rename_i j hj
          split at hL
          · rename_i hv0
            obtain ⟨_,_,_,h3'⟩:=H1.dom j _ L hL
            exact ⟨blkOf j,by rw [List.getElem?_append_right (by omega),hlen,List.getElem?_map,hj];rfl,by omega,h3'⟩
          · cases hL
        · cases hL
    · obtain ⟨_,_,_,_,_,hbr,_⟩:=orig hb hL
      exact hbr
    · obtain ⟨i',b',hb',hL',hw',_,hi'⟩:=orig hb hL
      obtain ⟨j',c',hc',hM',_,_,hj'⟩:=orig hc hM
      refine H1.disj i' j' b' c' L M ?_ hb' hc' hL' hM' (by rw [hw'];exact hwr)
      rcases hi' with ⟨a1,rfl⟩|⟨a1,a2,a3⟩<;>rcases hj' with ⟨b1,rfl⟩|⟨b1,b2,b3⟩
      · exact hij
      · omega
      · omega
      · intro e
        subst e
        have:=(List.getElem?_inj (List.getElem?_eq_some_iff.1 a3).1 c3).1 (a3.trans b3.symm)
        omega
    · rcases Nat.lt_or_ge id h0.length with hi|hi
      · rw [get_lo hi] at hb
        rw [loc_lo hi] at hL
        obtain ⟨M,hM⟩:=H1.cur id v L b hL hb
        exact ⟨M,by rw [loc_lo hi];exact hM⟩
      · obtain ⟨j,c,hj,hc,_,_,_,rfl⟩:=get_hi hi hb
        simp only [μ2] at hL
        rw [if_neg (by omega),hj] at hL
        simp only at hL
        split at hL
        · rename_i hv0;subst hv0
          exact ⟨L,by simp only [μ2];rw [if_neg (by omega),hj];simp [hL]⟩
        · cases hL
    · obtain ⟨⟨C,e,fz,h1',h2'⟩,h3'⟩:=H1.anon b l hb
      refine ⟨⟨C,e,fz,h1',h2'.1,fun i x y hx hy=>oldOk (h2'.2 i x y hx hy) fun r hr=>?_⟩,fun id k L hk hL hwr=>?_⟩
      · have:=mem_refsL (List.mem_of_getElem? hx) hr
        rw [H1.adom b l hb] at this;cases this
      · obtain ⟨j',c',hc',hM',hw',_,_⟩:=orig hk hL
        exact h3' j' c' L hc' hM' (by rw [hw'];exact hwr)
    · exact H1.adom b l hb
    · obtain ⟨e1,e2⟩:=hev.keep b hb hn
      refine ⟨e1,?_⟩
      rintro ⟨id,k,L,hk,hL,hwr,rfl⟩
      obtain ⟨j',c',hc',hM',hw',_,_⟩:=orig hk hL
      exact e2 ⟨j',c',L,hc',hM',by rw [hw'];exact hwr,rfl⟩
    · rcases Nat.lt_or_ge id h0.length with hi|hi
      · rw [loc_lo hi] at hL
        rcases hfr id v L hL with h|h|⟨b',hb',hlt,h⟩
        · exact .inl h
        · omega
        · rcases h with h|h
          · omega
          · exact .inr (.inr ⟨b',hb',hlt,.inr h⟩)
      · exact .inr (.inl hi)
  · cases hc
end
end Go.AM
