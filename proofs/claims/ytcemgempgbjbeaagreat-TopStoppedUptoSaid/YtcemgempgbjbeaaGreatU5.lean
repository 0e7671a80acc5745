/-
  Regions whose operations come in any order: what stands between two operations, and the walk.
-/
import Derived.Test.YtcemgempgbjbeaaGreatU4
set_option linter.unusedSimpArgs false
set_option linter.unusedVariables false
namespace Go.AM
section
variable {P:Program} {F:Fence} {call:Caller} {base:Nat} {wd:Bool} {q:Op→Bool} {ops:Array Oper} {st:Nat→St} {μ0 μ μ':Mu} {w0 w w':World} {a0 a:Act}
structure DInv (P:Program) (base:Nat) (wd:Bool) (ops:Array Oper) (st:Nat→St) (μ0:Mu) (w0:World) (a0:Act) (S:Nat→Prop) (b:Nat) (μ:Mu) (a:Act) (w:World):Prop where
 bn:b≤ops.size
 closed:∀ j,S j→∀ o,ops[j]?=some o→∀ e ∈ o.after,Region.binds .any e=true→S e.on
 eDone:∀ k o,ops[k]?=some o→isEw wd o.op=true→(S k ↔ k<b)
 bE:b=0 ∨ ∃ m o,b=m+1∧ops[m]?=some o∧isEw wd o.op=true
 fam:∀ i,b≤i→i≤ops.size→HRel P (μ.low (len st i)) ((st b).h++cat st b (i-b)) w
 gap:∀ k,k<ops.size→¬ S k→∀ id v,len st k≤id→id<len st (k+1)→μ.loc id v=.none
 top:∀ id v,len st ops.size≤id→μ.loc id v=.none
 tmps:∀ t i,i≤ops.size→(∀ k o,ops[k]?=some o→o.dst=some t→(S k ↔ k<i))→VR (μ.low (len st i)) ((st i).fr t) (a.tmps.getD t undef)
 le:μ0.le μ
 evo:Evo μ0 (st 0).h w0 μ ((st b).h++cat st b (ops.size-b)) w
 fresh:Fresh base μ0 (st 0).h μ
 size:a.tmps.size=a0.tmps.size
 defers:a.defers=a0.defers
theorem HRel.pad {h X:Heap} (H:HRel P μ h w):HRel P μ (h++X) w:=by
 have lt:∀ {id v:Nat} {L:Loc},μ.loc id v=some L→id<h.length:=fun hL=>by obtain ⟨b,hb,_⟩:=H.dom _ _ _ hL;exact lt_of_get hb
 have get:∀ {id v:Nat} {L:Loc} {b:ABlk},μ.loc id v=some L→(h++X)[id]?=some b→h[id]?=some b:=fun hL hb=>by rwa [List.getElem?_append_left (lt hL)] at hb
 refine ⟨fun id v L hL=>?_,fun id b L hb hL=>H.blk id b L (get hL hb) hL,fun i j b c L M hij hb hc hL hM hwr=>H.disj i j b c L M hij (get hL hb) (get hM hc) hL hM hwr,
  fun id v L b hL hb=>H.cur id v L b hL (get hL hb),fun b l hb=>⟨(H.anon b l hb).1,fun id k L hk hL hwr=>(H.anon b l hb).2 id k L (get hL hk) hL hwr⟩,H.adom⟩
 obtain ⟨b,hb,h2⟩:=H.dom id v L hL
 exact ⟨b,by rw [List.getElem?_append_left (lt hL)];exact hb,h2⟩
theorem Mu.low_id {n:Nat} (h:∀ id v,n≤id→μ.loc id v=.none):μ.low n=μ:=by
 cases μ with
 | mk loc anon =>
  simp only [Mu.low,Mu.mk.injEq,and_true]
  funext id v
  split
  ·rfl
  ·exact (h id v (by omega)).symm
theorem DInv.init (T:Text P call base wd ops st) (H:HRel P μ0 (st 0).h w0) (hf:∀ t,VR μ0 ((st 0).fr t) (a0.tmps.getD t undef)):DInv P base wd ops st μ0 w0 a0 (fun _=>False) 0 μ0 a0 w0:=by
 have out:∀ {i:Nat},i≤ops.size→∀ id v,len st i≤id→μ0.loc id v=.none:=fun hi id v hid=>H.none_of_len (Nat.le_trans (T.len_mono (Nat.zero_le _) hi) hid)
 have low:∀ {i:Nat},i≤ops.size→μ0.low (len st i)=μ0:=fun hi=>Mu.low_id (out hi)
 refine ⟨Nat.zero_le _,fun _ h=>h.elim,fun k o _ _=>by simp,.inl rfl,fun i _ hi=>?_,fun k hk _ id v h1 _=>out (by omega) id v h1,out (Nat.le_refl _),fun t i hi hw=>?_,.rfl,?_,.rfl,rfl,rfl⟩
 ·rw [low hi];exact H.pad
 ·rw [low hi]
  have:=T.fr_keep (t:=t) (j:=0) i (by omega) fun k o _ hk ho hd=>by
   have:=(hw k o ho hd).2 (by omega);exact this
  rw [Nat.zero_add] at this
  rw [this];exact hf t
 ·refine ⟨Nat.le_refl _,rfl,rfl,rfl,fun b hb hn=>⟨rfl,?_⟩,fun _ _ h=>.inl h⟩
  rintro ⟨id,k,L,hk,hL,hwr,he⟩
  refine hn ⟨id,k,L,?_,hL,hwr,he⟩
  obtain ⟨c,hc,_⟩:=H.dom _ _ _ hL
  rwa [List.getElem?_append_left (lt_of_get hc)] at hk
structure Next (ops:Array Oper) (S:Nat→Prop) (i:Nat) (o:Oper):Prop where
 get:ops[i]?=some o
 new:¬ S i
 ready:∀ e ∈ o.after,Region.binds .any e=true→S e.on
variable {S:Nat→Prop} {b i:Nat} {o:Oper}
theorem Next.lt (N:Next ops S i o):i<ops.size:=(Array.getElem?_eq_some_iff.1 N.get).1
theorem Next.mem (N:Next ops S i o) (D:DrawOk q wd ops) (I:DInv P base wd ops st μ0 w0 a0 S b μ a w) {k:Nat} (hb:befores ops i k=true):S k :=
 befores_mem D I.closed i i k (Nat.le_refl _) (fun o' ho' e he hbd=>by rw [N.get] at ho';cases ho';exact N.ready e he hbd) hb
theorem Next.not (N:Next ops S i o) (D:DrawOk q wd ops) (I:DInv P base wd ops st μ0 w0 a0 S b μ a w) {k:Nat} (hk:S k) (hb:befores ops k i=true):False :=
 N.new (befores_mem D I.closed k k i (Nat.le_refl _) (fun o' ho' e he hbd=>I.closed k hk o' ho' e he hbd) hb)
theorem Next.uses (N:Next ops S i o) (D:DrawOk q wd ops) (I:DInv P base wd ops st μ0 w0 a0 S b μ a w) {t:Tmp} (ht:t ∈ usesOf ops o):∀ k p,ops[k]?=some p→p.dst=some t→(S k ↔ k<i):=by
 intro k p hp hd
 rcases Nat.lt_trichotomy k i with hlt|heq|hgt
 ·refine ⟨fun _=>hlt,fun _=>?_⟩
  rcases pair_spec hp N.get (D.pair k i hlt N.lt) with h|⟨h,_⟩
  ·exact N.mem D I h
  ·exact absurd ht (h t hd).2
 ·subst heq;exact ⟨fun h=>absurd h N.new,fun h=>absurd h (Nat.lt_irrefl _)⟩
 ·refine ⟨fun h=>?_,fun h=>by omega⟩
  rcases pair_spec N.get hp (D.pair i k hgt (Array.getElem?_eq_some_iff.1 hp).1) with h'|⟨_,h',_⟩
  ·exact (N.not D I h h').elim
  ·exact absurd ht (h' t hd)
theorem Next.noE (N:Next ops S i o) (D:DrawOk q wd ops) (I:DInv P base wd ops st μ0 w0 a0 S b μ a w)
  (h:isEw wd o.op=true ∨ (isDw wd o.op=true∧q o.op=false) ∨ (readsH o.op=true∧i ∉ looseL wd ops)):∀ k p,b≤k→k<i→ops[k]?=some p→isEw wd p.op=false:=by
 intro k p hbk hki hp
 cases hE:isEw wd p.op with
 | false=>rfl
 | true =>
  have hnk:¬ S k:=fun hs=>by have:=(I.eDone k p hp hE).1 hs;omega
  exfalso
  rcases h with h|h|⟨h,hl⟩
  ·rcases pair_spec hp N.get (D.pair k i hki N.lt) with h'|⟨_,_,h',_⟩
   ·exact hnk (N.mem D I h')
   ·rw [(h' hE).1] at h;cases h
  ·rcases pair_spec hp N.get (D.pair k i hki N.lt) with h'|⟨_,_,h',_⟩
   ·exact hnk (N.mem D I h')
   ·rcases (h' hE).2 with h''|h''
    ·rw [h''] at h;cases h.1
    ·rw [h''] at h;cases h.2
  ·have gi:ops.getD i default=o:=by rw [Array.getD_eq_getD_getElem?,N.get];rfl
   have gk:ops.getD k default=p:=by rw [Array.getD_eq_getD_getElem?,hp];rfl
   by_cases h1:befores ops i k=true
   ·exact hnk (N.mem D I h1)
   ·by_cases h2:befores ops k i=true
    ·have:=befores_lt D k k i (Nat.le_refl _) h2;omega
    ·refine hl (List.mem_filter.2 ⟨List.mem_range.2 N.lt,?_⟩)
     simp only [gi,h,Bool.true_and,List.any_eq_true,List.mem_range]
     exact ⟨k,by have:=N.lt;omega,by simp [gk,hE,h1,h2]⟩
theorem Next.below (N:Next ops S i o) (D:DrawOk q wd ops) (I:DInv P base wd ops st μ0 w0 a0 S b μ a w) (hib:i<b):(isPure o.op=true ∨ q o.op=true)∧isEw wd o.op=false∧(readsH o.op=true→i ∈ looseL wd ops):=by
 rcases I.bE with h0|⟨m,p,rfl,hp,hE⟩
 ·omega
 ·have hSm:S m:=(I.eDone m p hp hE).2 (by omega)
  have hne:i ≠ m:=fun e=>N.new (e ▸ hSm)
  have him:i<m:=by omega
  rcases pair_spec N.get hp (D.pair i m him (Array.getElem?_eq_some_iff.1 hp).1) with h'|⟨_,_,_,h'⟩
  ·exact (N.not D I hSm h').elim
  ·refine ⟨h' hE,?_,fun hr=>?_⟩
   ·cases hEo:isEw wd o.op with
    | false=>rfl
    | true=>exact absurd ((I.eDone i o N.get hEo).2 hib) N.new
   ·have gi:ops.getD i default=o:=by rw [Array.getD_eq_getD_getElem?,N.get];rfl
    have gk:ops.getD m default=p:=by rw [Array.getD_eq_getD_getElem?,hp];rfl
    have h1:befores ops i m ≠ true:=fun h=>by have:=befores_lt D i i m (Nat.le_refl _) h;omega
    have h2:befores ops m i ≠ true:=fun h=>(N.not D I hSm h).elim
    refine List.mem_filter.2 ⟨List.mem_range.2 N.lt,?_⟩
    simp only [gi,hr,Bool.true_and,List.any_eq_true,List.mem_range]
    exact ⟨m,(Array.getElem?_eq_some_iff.1 hp).1,by simp [gk,hE,h1,h2]⟩
theorem DInv.next (T:Text P call base wd ops st) (D:DrawOk q wd ops) (I:DInv P base wd ops st μ0 w0 a0 S b μ a w) (N:Next ops S i o) (hle:μ.le μ') {b':Nat}
  (hb':(b'=b∧isEw wd o.op=false) ∨ (b'=i+1∧isEw wd o.op=true))
  (fam:∀ j,b'≤j→j≤ops.size→HRel P (μ'.low (len st j)) ((st b').h++cat st b' (j-b')) w')
  (undef':∀ k,k<ops.size→¬ S k→k ≠ i→∀ id v,len st k≤id→id<len st (k+1)→μ'.loc id v=.none)
  (top:∀ id v,len st ops.size≤id→μ'.loc id v=.none)
  (evo:Evo μ0 (st 0).h w0 μ' ((st b').h++cat st b' (ops.size-b')) w') (fresh:Fresh base μ0 (st 0).h μ')
  {v:AVal} {V:Value} (hst:(st (i+1)).fr=put (st i).fr o.dst v) (hv:VR (μ'.low (len st (i+1))) v V) (hsz:tmpLt a0.tmps.size o.dst=true) :
  DInv P base wd ops st μ0 w0 a0 (fun k=>S k ∨ k=i) b' μ' (a.put o.dst V) w':=by
 have hlt:=N.lt
 refine ⟨?_,fun j hj p hp e he hbd=>?_,fun k p hp hE=>?_,?_,fam,fun k hk hn id v h1 h2=>undef' k hk (fun h=>hn (.inl h)) (fun h=>hn (.inr h)) id v h1 h2,top,fun t j hj hw=>?_,
  I.le.trans hle,evo,fresh,(put_size _ _ _).trans I.size,(put_defers _ _ _).trans I.defers⟩
 ·rcases hb' with ⟨rfl,_⟩|⟨rfl,_⟩
  ·exact I.bn
  ·omega
 ·rcases hj with hj|rfl
  ·exact .inl (I.closed j hj p hp e he hbd)
  ·rw [N.get] at hp;cases hp
   exact .inl (N.ready e he hbd)
 ·have h0:=I.eDone k p hp hE
  rcases hb' with ⟨rfl,hn⟩|⟨rfl,hEo⟩
  ·have hne:k ≠ i:=fun e=>by subst e;rw [N.get] at hp;cases hp;rw [hE] at hn;cases hn
   exact ⟨fun h=>h0.1 (h.resolve_right hne),fun h=>.inl (h0.2 h)⟩
  ·have hbi:b≤i:=by
    rcases Nat.lt_or_ge i b with h|h
    ·exact absurd ((I.eDone i o N.get hEo).2 h) N.new
    ·exact h
   have hno:=N.noE D I (.inl hEo)
   refine ⟨fun h=>?_,fun h=>?_⟩
   ·rcases h with h|rfl
    ·have:=h0.1 h;omega
    ·omega
   ·rcases Nat.lt_or_ge k b with h1|h1
    ·exact .inl (h0.2 h1)
    ·rcases Nat.lt_or_ge k i with h2|h2
     ·have:=hno k p h1 h2 hp;rw [hE] at this;cases this
     ·exact .inr (by omega)
 ·rcases hb' with ⟨rfl,_⟩|⟨rfl,hEo⟩
  ·exact I.bE
  ·exact .inr ⟨i,o,rfl,N.get,hEo⟩
 · -- the temporaries
  by_cases hd:o.dst=some t
  ·have hij:i<j:=(hw i o N.get hd).1 (.inr rfl)
   have hbetween:∀ k p,i+1≤k→k<(i+1)+(j-(i+1))→ops[k]?=some p→p.dst ≠ some t:=by
    intro k p h1 h2 hp hpd
    have hSk:S k:=((hw k p hp hpd).2 (by omega)).resolve_right (by omega)
    rcases pair_spec N.get hp (D.pair i k (by omega) (Array.getElem?_eq_some_iff.1 hp).1) with h'|⟨h',_⟩
    ·exact N.not D I hSk h'
    ·exact (h' t hd).1 hpd
   have:=T.fr_keep (t:=t) (j:=i+1) (j-(i+1)) (by omega) hbetween
   rw [show i+1+(j-(i+1))=j by omega] at this
   rw [this,hst]
   have hsz':t<a.tmps.size:=by
    rw [hd] at hsz;simp [tmpLt] at hsz;rw [I.size];exact hsz
   simp only [hd,put,Act.put,getD_setIfInBounds _ _ _ _ hsz',if_true]
   exact hv.mono (Mu.low_mono .rfl (T.len_mono (by omega) hj))
  ·have e1:(a.put o.dst V).tmps.getD t undef=a.tmps.getD t undef:=by
    cases hdd:o.dst with
    | none=>rfl
    | some d =>
     simp only [Act.put]
     have hne:d ≠ t:=fun e=>hd (by rw [hdd,e])
     simp only [Array.getD_eq_getD_getElem?,Array.getElem?_setIfInBounds]
     rw [if_neg hne]
   rw [e1]
   refine (I.tmps t j hj fun k p hp hpd=>?_).mono (Mu.low_mono hle (Nat.le_refl _))
   have hne:k ≠ i:=fun e=>by subst e;rw [N.get] at hp;cases hp;exact hd hpd
   exact ⟨fun h=>(hw k p hp hpd).1 (.inl h),fun h=>((hw k p hp hpd).2 h).resolve_right hne⟩
theorem DInv.calm (T:Text P call base wd ops st) (D:DrawOk q wd ops) (I:DInv P base wd ops st μ0 w0 a0 S b μ a w) (N:Next ops S i o) (hh:(st (i+1)).h=(st i).h)
  {v:AVal} {V:Value} (hst:(st (i+1)).fr=put (st i).fr o.dst v) (hv:VR (μ.low (len st (i+1))) v V) (hsz:tmpLt a0.tmps.size o.dst=true) :
  ∃ b',DInv P base wd ops st μ0 w0 a0 (fun k=>S k ∨ k=i) b' μ (a.put o.dst V) w:=by
 cases hE:isEw wd o.op with
 | false=>exact ⟨b,I.next T D N .rfl (.inl ⟨rfl,hE⟩) I.fam (fun k hk hn _=>I.gap k hk hn) I.top I.evo I.fresh hst hv hsz⟩
 | true =>
  have hlt:=N.lt
  have hbi:b≤i:=by
   rcases Nat.lt_or_ge i b with h|h
   ·exact absurd ((I.eDone i o N.get hE).2 h) N.new
   ·exact h
  have hno:=N.noE D I (.inl hE)
  have he:=T.ext' (b:=b) (i-b) (by omega) (fun k p h1 h2 hp=>hno k p h1 (by omega) hp)
  rw [show b+(i-b)=i by omega] at he
  have hcr:cr st i=[]:=by simp [cr,hh]
  have heq:∀ j,i+1≤j→(st (i+1)).h++cat st (i+1) (j-(i+1))=(st b).h++cat st b (j-b):=by
   intro j hj
   rw [show j-b=(i-b)+((j-(i+1))+1) by omega,cat_add,show b+(i-b)=i by omega,cat,hcr,hh,he]
   simp
  refine ⟨i+1,I.next T D N .rfl (.inr ⟨rfl,hE⟩) (fun j h1 h2=>?_) (fun k hk hn _=>I.gap k hk hn) I.top ?_ I.fresh hst hv hsz⟩
  ·rw [heq j h1];exact I.fam j (by omega) h2
  ·rw [heq ops.size (by omega)];exact I.evo
theorem DInv.deed (T:Text P call base wd ops st) (D:DrawOk (quietB P) wd ops) (I:DInv P base wd ops st μ0 w0 a0 S b μ a w) (H0:HRel P μ0 (st 0).h w0) (N:Next ops S i o) (hbi:b≤i) {A A':Heap} (hA:A=(st b).h++cat st b (i-b))
  (hA':(isEw wd o.op=false∧A'=A++cr st i) ∨ (isEw wd o.op=true∧A=(st i).h∧A'=(st (i+1)).h)) {v:AVal} {V:Value} (hfine:Fine P base (μ.low (len st i)) A w v A' V w')
  (hst:(st (i+1)).fr=put (st i).fr o.dst v) (hsz:tmpLt a0.tmps.size o.dst=true) :
  ∃ b' μ',DInv P base wd ops st μ0 w0 a0 (fun k=>S k ∨ k=i) b' μ' (a.put o.dst V) w':=by
 have hlt:=N.lt
 obtain ⟨ν,hle,hvν,HA,hev,hfr⟩:=hfine
 have hlenA:A.length=len st i:=by
  have:=T.cat_len (i-b) b (by omega)
  rw [show b+(i-b)=i by omega] at this
  rw [hA,List.length_append]
  exact this
 have hstep:=T.len_step hlt
 have hlenA':A'.length=len st (i+1):=by
  rcases hA' with ⟨_,rfl⟩|⟨_,_,rfl⟩
  ·rw [List.length_append];omega
  ·rfl
 have hgrow:Grow base A A':=by
  rcases hA' with ⟨_,rfl⟩|⟨_,h1,h2⟩
  ·exact .app (by rw [hlenA];exact Nat.le_trans T.base0 (T.len_mono (Nat.zero_le _) (by omega))) (T.cr_wr hlt)
  ·rw [h1,h2];exact T.grow i hlt
 have split:∀ j,i+1≤j→(st b).h++cat st b (j-b)=A++cr st i++cat st (i+1) (j-(i+1)):=by
  intro j hj
  rw [hA,show j-b=(i-b)+((j-(i+1))+1) by omega,cat_add,show b+(i-b)=i by omega,cat]
  simp
 have low_i:∀ {n:Nat},len st i≤n→(μ.low n).low A.length=μ.low (len st i):=fun h=>by rw [hlenA,Mu.low_low _ h]
 -- the two,joined
 have glue:∀ j,i+1≤j→j≤ops.size→_:=fun j h1 h2=>HRel.glue (base:=base) (μ:=μ.low (len st j)) (ν:=ν) (A:=A) (A':=A') (f:=cr st i) (X:=cat st (i+1) (j-(i+1))) (w:=w) (w':=w')
  (by rw [← split j h1];exact I.fam j (by omega) h2)
  (fun id v' g1 g2=>by
   have:=I.gap i hlt N.new id v' (by omega) (by omega)
   simp only [Mu.low];split
   ·exact this
   ·rfl)
  (by rw [low_i (T.len_mono (by omega) h2)];exact hle) HA (by rw [low_i (T.len_mono (by omega) h2)];exact hev) (by rw [low_i (T.len_mono (by omega) h2)];exact hfr) hgrow (by omega)
 have topμ:μ.low (len st ops.size)=μ:=Mu.low_id I.top
 have gtop:=glue ops.size (by omega) (Nat.le_refl _)
 rw [topμ] at gtop
 obtain ⟨g1,g2,g3⟩:=gtop
 have evo':Evo μ0 (st 0).h w0 (Mu.join A'.length ν μ) (A'++cat st (i+1) (ops.size-(i+1))) w':=by
  have:=I.evo
  rw [split ops.size (by omega)] at this
  exact this.trans g3
 have hfresh:Fresh base μ0 (st 0).h (Mu.join A'.length ν μ):=by
  have hgA:Grow base (st 0).h A:=by
   rw [hA]
   exact (T.grow_to b I.bn).trans (.app (Nat.le_trans T.base0 (T.len_mono (Nat.zero_le _) I.bn)) (T.cat_wr _ _ (by omega)))
  have hlow:Fresh base μ0 (st 0).h (μ.low (len st i)):=fun id v' L hL=>I.fresh id v' L ((Mu.low_le _ _).loc _ _ _ hL)
  have hν:=Fresh.trans H0 hgA hlow hfr
  intro id v' L hL
  simp only [Mu.join] at hL
  split at hL
  ·exact hν id v' L hL
  ·exact I.fresh id v' L hL
 have top':∀ id v',len st ops.size≤id→(Mu.join A'.length ν μ).loc id v'=.none:=by
  intro id v' hid
  have:=T.len_mono (k:=i+1) (m:=ops.size) (by omega) (Nat.le_refl _)
  simp only [Mu.join]
  rw [if_neg (by omega)]
  exact I.top id v' hid
 have hv':VR ((Mu.join A'.length ν μ).low (len st (i+1))) v V:=by
  rw [← hlenA',Mu.low_join _ _ (Nat.le_refl _),HA.low_self];exact hvν
 -- no new place for what lay there,where nothing is written
 have oldloc:isEw wd o.op=false→∀ id v' L,id<len st i→ν.loc id v'=some L→μ.loc id v'=some L:=by
  intro hE id v' L hid hL
  rcases hA' with ⟨_,rfl⟩|⟨h,_⟩
  ·rcases hfr id v' L hL with h|h|⟨c,hc,hcv,_⟩
   ·exact (Mu.low_le _ _).loc _ _ _ h
   ·omega
   ·obtain ⟨c',hc',hv2,_⟩:=HA.dom id v' L hL
    rw [List.getElem?_append_left (by omega),hc] at hc'
    cases hc';omega
  ·rw [hE] at h;cases h
 have undef':∀ k,k<ops.size→¬ S k→k ≠ i→∀ id v',len st k≤id→id<len st (k+1)→(Mu.join A'.length ν μ).loc id v'=.none:=by
  intro k hk hn hne id v' h1 h2
  rcases Nat.lt_or_ge k i with hki|hki
  ·have hid:id<len st i:=Nat.lt_of_lt_of_le h2 (T.len_mono (by omega) (by omega))
   have h0:=I.gap k hk hn id v' h1 h2
   have hidA:id<A'.length:=by omega
   simp only [Mu.join]
   rw [if_pos hidA]
   cases hE:isEw wd o.op with
   | false =>
    cases hc:ν.loc id v' with
    | none=>rfl
    | some L=>have:=oldloc hE id v' L hid hc;rw [h0] at this;cases this
   | true =>
    exfalso
    have hget:ops[k]?=some ops[k]:=Array.getElem?_eq_getElem hk
    rcases pair_spec hget N.get (D.pair k i hki hlt) with h'|⟨_,_,_,h'⟩
    ·exact hn (N.mem D I h')
    ·have hp:=h' hE
     have hs:=T.step k _ hget
     have:(st (k+1)).h=(st k).h:=by
      unfold stepOp at hs
      split at hs
      ·split at hs
       ·split at hs
        ·simp only [Option.some.injEq] at hs;rw [← hs]
        ·cases hs
       ·rename_i hnp
        have hq:=hp.resolve_left hnp
        split at hs
        ·rename_i v2 h2 he
         split at hs
         ·cases hs
         ·simp only [Option.some.injEq] at hs;rw [← hs,(effA_quiet hq he).1]
        ·cases hs
      ·simp only [Option.some.injEq] at hs;rw [← hs]
      ·cases hs
     simp only [len,this] at h1 h2;omega
  ·have:=T.len_mono (k:=i+1) (m:=k) (by omega) (by omega)
   simp only [Mu.join]
   rw [if_neg (by omega)]
   exact I.gap k hk hn id v' h1 h2
 have famHi:∀ j,i+1≤j→j≤ops.size→HRel P ((Mu.join A'.length ν μ).low (len st j)) (A'++cat st (i+1) (j-(i+1))) w':=by
  intro j h1 h2
  rw [Mu.join_low _ _ (by rw [hlenA'];exact T.len_mono h1 h2)]
  exact (glue j h1 h2).2.1
 rcases hA' with ⟨hE,rfl⟩|⟨hE,_,rfl⟩
 ·have heq:∀ j,i+1≤j→(st b).h++cat st b (j-b)=A++cr st i++cat st (i+1) (j-(i+1)):=split
  refine ⟨b,_,I.next T D N g1 (.inl ⟨rfl,hE⟩) (fun j h1 h2=>?_) undef' top' (by rw [heq _ (by omega)];exact evo') hfresh hst hv' hsz⟩
  rcases Nat.lt_or_ge i j with hj|hj
  ·rw [heq j (by omega)];exact famHi j (by omega) h2
  · -- a shorter one
   have hlenj:((st b).h++cat st b (j-b)).length=len st j:=by
    have:=T.cat_len (j-b) b (by omega)
    rw [show b+(j-b)=j by omega] at this
    rw [List.length_append]
    exact this
   have hsplit:A++cr st i=((st b).h++cat st b (j-b))++(cat st j (i-j)++cr st i):=by
    rw [hA,show i-b=(j-b)+(i-j) by omega,cat_add,show b+(j-b)=j by omega]
    simp
   have hcut:=HRel.cut (t:=cat st j (i-j)++cr st i) (I.fam j h1 h2) (by rw [← hsplit];exact HA) (fun id v' L hid hL=>by
    rw [hlenj] at hid
    have hji:=T.len_mono (k:=j) (m:=i) hj (by omega)
    have:=oldloc hE id v' L (by omega) hL
    exact ⟨L,by simp only [Mu.low];rw [if_pos hid];exact this⟩)
   rw [hlenj] at hcut
   rw [Mu.low_join _ _ (by rw [hlenA'];exact T.len_mono (by omega) (by omega))]
   exact hcut
 ·exact ⟨i+1,_,I.next T D N g1 (.inr ⟨rfl,hE⟩) famHi undef' top' evo' hfresh hst hv' hsz⟩
end
end Go.AM
namespace Go.AM
section
variable {P:Program} {F:Fence} {call:Caller} {base:Nat} {wd:Bool} {ops:Array Oper} {st:Nat→St} {μ0 μ μ':Mu} {w0 w w':World} {a0 a:Act} {S:Nat→Prop} {b i:Nat} {o:Oper}
theorem guard_congr {fr fr':AFrame} {g:Option (Nat × Bool)} (hf:∀ j want,g=some (j,want)→∀ d,(ops[j]?).bind (·.dst)=some d→fr d=fr' d):guardA ops fr g=guardA ops fr' g:=by
 unfold guardA
 cases g with
 | none=>rfl
 | some q =>
  obtain ⟨j,want⟩:=q
  simp only
  cases hd:(ops[j]?).bind (·.dst) with
  | none=>rfl
  | some d=>simp only;rw [hf j want rfl d hd]
theorem any_op (hF:∀ f,F.fn f) (hd:F.depth=none) (hcall:CallSound P F call) (T:Text P call base wd ops st) (D:DrawOk (quietB P) wd ops) (H0:HRel P μ0 (st 0).h w0) (I:DInv P base wd ops st μ0 w0 a0 S b μ a w) (N:Next ops S i o)
  (hsz:tmpLt a0.tmps.size o.dst=true) {Q:Exit→Act→World→Prop} {K:Act→World→Prop} (hK:∀ b' μ' a' w',DInv P base wd ops st μ0 w0 a0 (fun k=>S k ∨ k=i) b' μ' a' w'→K a' w'):wpOpIn F 0 P ops Q i K a w:=by
 have hlt:=N.lt
 unfold wpOpIn
 rw [N.get]
 simp only
 -- the frame,as far as the operation looks at it
 let fr:AFrame:=fun t=>if t ∈ usesOf ops o then (st i).fr t else .none
 have hfr:∀ n,len st i≤n→∀ t,VR (μ.low n) (fr t) (a.tmps.getD t undef):=by
  intro n hn t
  simp only [fr]
  split
  ·rename_i ht
   exact (I.tmps t i (by omega) (N.uses D I ht)).mono (Mu.low_mono .rfl hn)
  ·exact .none _
 have huse:∀ t ∈ tmpsOf o.op.operands.toList,(st i).fr t=fr t:=by
  intro t ht
  simp only [fr]
  rw [if_pos (show t ∈ usesOf ops o from List.mem_append_left _ ht)]
 have hguard:guardA ops (st i).fr o.guard=guardA ops fr o.guard:=guard_congr fun j want hg d hd=>by
  simp only [fr]
  rw [if_pos]
  refine List.mem_append_right _ ?_
  rw [hg];simp [hd]
 have hs:=T.step i o N.get
 unfold stepOp at hs
 rw [hguard] at hs
 split at hs
 ·rename_i hg
  rw [guard_sound (hfr (len st i) (Nat.le_refl _)) hg,if_pos rfl]
  split at hs
  ·rename_i hp
   split at hs
   ·rename_i v hv
    simp only [Option.some.injEq] at hs
    have hh:(st (i+1)).h=(st i).h:=by rw [← hs]
    have hst:(st (i+1)).fr=put (st i).fr o.dst v:=by rw [← hs]
    have hlen:len st (i+1)=len st i:=by simp only [len,hh]
    have fin:∀ V,VR (μ.low (len st (i+1))) v V→K (a.put o.dst V) w:=fun V hV=>by
     obtain ⟨b',I'⟩:=I.calm T D N hh hst hV hsz
     exact hK _ _ _ _ I'
    cases hr:readsH o.op with
    | false =>
     exact pure_op hF (μ:=μ.low (len st i)) (h:=(st i).h) (w:=w) (fun h=>by rw [hr] at h;cases h) (hfr _ (Nat.le_refl _)) (by rw [← pureA_congr huse];exact hv) hp fun V hV=>fin V (by rw [hlen];exact hV)
    | true =>
     by_cases hl:i ∈ looseL wd ops
     ·obtain ⟨o',v',ho',hloo⟩:=T.loose i hl
      rw [N.get] at ho';cases ho'
      obtain ⟨hall,hrefs⟩:=hloo (hguard.trans hg)
      have atI:∀ m,m<ops.size→isEw wd (ops.getD m default).op=true→befores ops m i=true→i≤m:=fun m _ _ hb=>by
       have:=befores_lt D m m i (Nat.le_refl _) hb;omega
      have atB:∀ m,m<ops.size→isEw wd (ops.getD m default).op=true→befores ops m i=true→b≤m:=fun m hm hE hb=>by
       rcases Nat.lt_or_ge m b with h|h
       ·have hg:ops[m]?=some ops[m]:=Array.getElem?_eq_getElem hm
        have hE':isEw wd ops[m].op=true:=by rw [Array.getD_eq_getD_getElem?,hg] at hE;exact hE
        exact (N.not D I ((I.eDone m _ hg hE').2 h) hb).elim
       ·exact h
      have hvv:v'=v:=by
       have:=hall i (by omega) atI;rw [hv] at this;exact (Option.some.inj this).symm
      subst hvv
      have done:∀ {n:Nat} {A:Heap},len st i≤n→HRel P (μ.low n) A w→pureA P fr A o.op=some v'→o.wpIn F 0 P a w K Q:=by
       intro n A hn HA hA
       refine pure_op hF (fun _=>HA) (hfr n hn) hA hp fun V hV=>fin V ?_
       refine VR.keep (μ:=μ.low n) (μ':=μ.low (len st (i+1))) (base:=len st 0) (fun id u L hid hL=>?_) (fun b l hb _=>hb) hV (fun r hr'=>of_decide_eq_true (List.all_eq_true.1 hrefs r hr'))
       have h1:=(Mu.low_le _ _).loc _ _ _ hL
       have h2:=T.len_mono (k:=0) (m:=i+1) (by omega) (by omega)
       simp only [Mu.low];rw [if_pos (by omega)];exact h1
      rcases Nat.lt_or_ge i b with hib|hbi
      ·refine done (n:=len st b) (T.len_mono (by omega) I.bn) (I.fam b (Nat.le_refl _) I.bn) ?_
       rw [← pureA_congr huse]
       exact pureA_app (hall b I.bn atB)
      ·refine done (n:=len st i) (Nat.le_refl _) (I.fam i hbi (by omega)) ?_
       rw [← pureA_congr huse]
       exact pureA_app (hall b I.bn atB)
     ·have hbi:b≤i:=by
       rcases Nat.lt_or_ge i b with h|h
       ·exact absurd ((N.below D I h).2.2 hr) hl
       ·exact h
      have hno:=N.noE D I (.inr (.inr ⟨hr,hl⟩))
      have he:=T.ext' (b:=b) (i-b) (by omega) (fun k p h1 h2 hp=>hno k p h1 (by omega) hp)
      rw [show b+(i-b)=i by omega] at he
      have HA:=I.fam i hbi (by omega)
      rw [← he] at HA
      exact pure_op hF (fun _=>HA) (hfr _ (Nat.le_refl _)) (by rw [← pureA_congr huse];exact hv) hp fun V hV=>fin V (by rw [hlen];exact hV)
   ·cases hs
  ·rename_i hp
   have hp':isPure o.op=false:=by simpa using hp
   by_cases hib:i<b
   ·have hq:=(N.below D I hib).1.resolve_left hp
    split at hs
    ·rename_i v h' he
     split at hs
     ·cases hs
     ·simp only [Option.some.injEq] at hs
      have h1:=(effA_quiet hq he).1
      have hh:(st (i+1)).h=(st i).h:=by rw [← hs,h1]
      have hst:(st (i+1)).fr=put (st i).fr o.dst v:=by rw [← hs]
      have hlen:len st (i+1)=len st i:=by simp only [len,hh]
      refine quiet_op hF (μ:=μ.low (len st i)) (w:=w) (call:=call) (base:=base) (lit:=litIn ops.toList o.dst) (hfr _ (Nat.le_refl _)) hq (by rw [← effA_congr huse];exact he) fun V hV=>?_
      obtain ⟨b',I'⟩:=I.calm T D N hh hst (by rw [hlen];exact hV) hsz
      exact hK _ _ _ _ I'
    ·cases hs
   have hbi:b≤i:=by omega
   have HA:=I.fam i hbi (by omega)
   have hlenA:((st b).h++cat st b (i-b)).length=len st i:=by
    have:=T.cat_len (i-b) b (by omega)
    rw [show b+(i-b)=i by omega] at this
    rw [List.length_append];exact this
   have hbase:base≤((st b).h++cat st b (i-b)).length:=by rw [hlenA];exact Nat.le_trans T.base0 (T.len_mono (Nat.zero_le _) (by omega))
   split at hs
   ·rename_i v h' he
    split at hs
    ·cases hs
    ·rename_i hc
     simp only [Option.some.injEq] at hs
     have hh:(st (i+1)).h=h':=by rw [← hs]
     have hst:(st (i+1)).fr=put (st i).fr o.dst v:=by rw [← hs]
     have same:(isEw wd o.op=true ∨ (isDw wd o.op=true∧quietB P o.op=false))→(st i).h=(st b).h++cat st b (i-b):=by
      intro h
      have hno:=N.noE D I (h.imp id .inl)
      have he:=T.ext' (b:=b) (i-b) (by omega) (fun k p h1 h2 hp=>hno k p h1 (by omega) hp)
      rwa [show b+(i-b)=i by omega] at he
     cases hE:isEw wd o.op with
     | true =>
      have hsame:=same (.inl hE)
      refine eff_op hF hd hcall hbase HA (hfr _ (Nat.le_refl _)) (lit:=litIn ops.toList o.dst) (v:=v) (h':=h') (by rw [← hsame,← effA_congr huse];exact he) fun V w' hfine=>?_
      obtain ⟨b',μ',I'⟩:=I.deed T D H0 N hbi rfl (.inr ⟨hE,hsame.symm,hh.symm⟩) hfine hst hsz
      exact hK _ _ _ _ I'
     | false =>
      have hext:=T.ext o N.get hE
      have step:effA P call base (litIn ops.toList o.dst) fr ((st b).h++cat st b (i-b)) o.op=some (v,(st b).h++cat st b (i-b)++cr st i):=by
       rw [← effA_congr huse]
       cases hD:isDw wd o.op with
       | true =>
        cases hq:quietB P o.op with
        | false=>rw [← same (.inr ⟨hD,hq⟩),← hext,hh];exact he
        | true =>
         obtain ⟨h1,h2⟩:=effA_quiet hq he
         have h3:cr st i=[]:=by
          have h4:(st i).h++cr st i=(st i).h++[]:=by rw [← hext,hh,h1,List.append_nil]
          exact List.append_cancel_left h4
         rw [h3,List.append_nil]
         exact h2 _
       | false =>
        obtain ⟨t,ht,hall⟩:=effA_len hp' (isEw_false hE) (isDw_false hE hD) he
        have:t=cr st i:=by
         rw [← hh,hext] at ht
         exact (List.append_cancel_left ht).symm
        rw [← this]
        exact hall _ hlenA
      refine eff_op hF hd hcall hbase HA (hfr _ (Nat.le_refl _)) step fun V w' hfine=>?_
      obtain ⟨b',μ',I'⟩:=I.deed T D H0 N hbi rfl (.inl ⟨hE,rfl⟩) hfine hst hsz
      exact hK _ _ _ _ I'
   ·cases hs
 ·rename_i hg
  rw [guard_sound (hfr (len st i) (Nat.le_refl _)) hg,if_neg (by simp)]
  simp only [Option.some.injEq] at hs
  refine ⟨fun f _=>hF f,?_⟩
  obtain ⟨b',I'⟩:=I.calm T D N (v:=undefA) (V:=undef) (by rw [← hs]) (by rw [← hs]) VR_undef hsz
  exact hK _ _ _ _ I'
 ·cases hs
theorem countP_lt {p q:Nat→Bool}:∀ {l:List Nat},(∀ x ∈ l,p x=true→q x=true)→(∃ x ∈ l,q x=true∧p x=false)→l.countP p<l.countP q
 | [],_,⟨x,hx,_⟩=>by cases hx
 | y :: ys,hpq,⟨x,hx,h1,h2⟩=>by
  have hle:ys.countP p≤ys.countP q:=List.countP_mono_left fun z hz=>hpq z (by simp [hz])
  rcases List.mem_cons.1 hx with rfl|hx'
  ·rw [List.countP_cons_of_neg (by simp [h2]),List.countP_cons_of_pos h1];omega
  ·have ih:=countP_lt (l:=ys) (fun z hz=>hpq z (by simp [hz])) ⟨x,hx',h1,h2⟩
   cases hy:p y with
   | true=>rw [List.countP_cons_of_pos hy,List.countP_cons_of_pos (hpq y (by simp) hy)];omega
   | false =>
    rw [List.countP_cons_of_neg (by simp [hy])]
    cases hq:q y with
    | true=>rw [List.countP_cons_of_pos hq];omega
    | false=>rw [List.countP_cons_of_neg (by simp [hq])];exact ih
theorem any_walk (hF:∀ f,F.fn f) (hd:F.depth=none) (hcall:CallSound P F call) (T:Text P call base wd ops st) (D:DrawOk (quietB P) wd ops) (H0:HRel P μ0 (st 0).h w0) (hsz:∀ (i:Nat) (o:Oper),ops[i]?=some o→tmpLt a0.tmps.size o.dst=true)
  {Q:Exit→Act→World→Prop} (hQ:∀ a' w' μ',Reach P base μ0 (st 0).h w0 a0 (st ops.size) a' w' μ'→Q .normal a' w') :
  ∀ (fuel:Nat) (listed:Array Bool) (b:Nat) (μ:Mu) (a:Act) (w:World),listed.size=ops.size→DInv P base wd ops st μ0 w0 a0 (fun k=>k<ops.size∧listed.getD k true=true) b μ a w →
  (List.range ops.size).countP (fun k=>!listed.getD k true)≤fuel→wpAnyIn F 0 P .any ops Q fuel listed a w:=by
 -- all done
 have fin:∀ (listed:Array Bool) (b:Nat) (μ:Mu) (a:Act) (w:World),DInv P base wd ops st μ0 w0 a0 (fun k=>k<ops.size∧listed.getD k true=true) b μ a w→(∀ k,k<ops.size→listed.getD k true=true)→Q .normal a w:=by
  intro listed b μ a w I hall
  have hno:∀ k p,b≤k→k<b+(ops.size-b)→ops[k]?=some p→isEw wd p.op=false:=by
   intro k p h1 h2 hp
   cases hE:isEw wd p.op with
   | false=>rfl
   | true=>have:=(I.eDone k p hp hE).1 ⟨by have:=I.bn;omega,hall k (by have:=I.bn;omega)⟩;omega
  have he:=T.ext' (b:=b) (ops.size-b) (by have:=I.bn;omega) hno
  have hbn:b+(ops.size-b)=ops.size:=by have:=I.bn;omega
  rw [hbn] at he
  have hlow:μ.low (len st ops.size)=μ:=Mu.low_id I.top
  refine hQ a w μ ⟨I.le,fun t=>?_,?_,by rw [he];exact I.evo,I.fresh,T.grow_to _ (Nat.le_refl _),I.size,I.defers⟩
  ·have:=I.tmps t ops.size (Nat.le_refl _) fun k p hp _=>⟨fun h=>h.1,fun h=>⟨h,hall k h⟩⟩
   rwa [hlow] at this
  ·have:=I.fam ops.size I.bn (Nat.le_refl _)
   rw [hlow,← he] at this
   exact this
 -- if none is at hand,all are done
 have noneReady:∀ (listed:Array Bool),Region.ready .any ops listed=[]→listed.size=ops.size→∀ n k,k≤n→k<ops.size→listed.getD k true=true:=by
  intro listed hr hls n
  induction n with
  | zero =>
   intro k hk hlt
   cases hl:listed.getD k true with
   | true=>rfl
   | false =>
    have:k ∈ Region.ready .any ops listed:=by
     refine List.mem_filter.2 ⟨List.mem_range.2 hlt,?_⟩
     rw [Array.getElem?_eq_getElem hlt]
     simp only [hl,Bool.not_false,Bool.true_and,Option.map_some,Option.getD_some,Array.all_eq_true']
     intro e he
     by_cases hb:Region.binds .any e=true
     ·have:=D.back k _ (Array.getElem?_eq_getElem hlt) e he hb;omega
     ·simp [hb]
    rw [hr] at this;cases this
  | succ n ih =>
   intro k hk hlt
   cases hl:listed.getD k true with
   | true=>rfl
   | false =>
    have:k ∈ Region.ready .any ops listed:=by
     refine List.mem_filter.2 ⟨List.mem_range.2 hlt,?_⟩
     rw [Array.getElem?_eq_getElem hlt]
     simp only [hl,Bool.not_false,Bool.true_and,Option.map_some,Option.getD_some,Array.all_eq_true']
     intro e he
     by_cases hb:Region.binds .any e=true
     ·have h1:=D.back k _ (Array.getElem?_eq_getElem hlt) e he hb
      have h2:=ih e.on (by omega) (by omega)
      have h3:listed.getD e.on false=true:=by
       rw [Array.getD_eq_getD_getElem?] at h2 ⊢
       rw [Array.getElem?_eq_getElem (by omega)] at h2 ⊢
       exact h2
      simp [h3]
     ·simp [hb]
    rw [hr] at this;cases this
 intro fuel
 induction fuel with
 | zero =>
  intro listed b μ a w hls I hc
  have hall:∀ k,k<ops.size→listed.getD k true=true:=by
   intro k hk
   have h0:(List.range ops.size).countP (fun k=>!listed.getD k true)=0:=Nat.le_zero.1 hc
   have:=List.countP_eq_zero.1 h0 k (List.mem_range.2 hk)
   simpa using this
  refine ⟨?_,fin listed b μ a w I hall⟩
  refine List.eq_nil_iff_forall_not_mem.2 fun k hk=>?_
  obtain ⟨h1,h2⟩:=List.mem_filter.1 hk
  have:=hall k (List.mem_range.1 h1)
  simp only [Bool.and_eq_true] at h2
  rw [this] at h2;simp at h2
 | succ fuel ih =>
  intro listed b μ a w hls I hc
  refine ⟨fun hr=>fin listed b μ a w I fun k hk=>noneReady listed hr hls k k (Nat.le_refl _) hk,fun i hi=>?_⟩
  obtain ⟨h1,h2⟩:=List.mem_filter.1 hi
  have hlt:=List.mem_range.1 h1
  have hget:ops[i]?=some ops[i]:=Array.getElem?_eq_getElem hlt
  simp only [Bool.and_eq_true,Bool.not_eq_true',hget,Option.map_some,Option.getD_some] at h2
  have N:Next ops (fun k=>k<ops.size∧listed.getD k true=true) i ops[i]:=by
   refine ⟨hget,fun h=>by rw [h2.1] at h;exact absurd h.2 (by simp),fun e he hb=>?_⟩
   have h3:=Array.all_eq_true'.1 h2.2 e he
   simp only [hb,Bool.not_true,Bool.false_or] at h3
   have hon:=D.back i _ hget e he hb
   refine ⟨by omega,?_⟩
   rw [Array.getD_eq_getD_getElem?] at h3 ⊢
   rw [Array.getElem?_eq_getElem (by omega)] at h3 ⊢
   exact h3
  refine any_op hF hd hcall T D H0 I N (hsz i _ hget) fun b' μ' a' w' I'=>?_
  have hset:∀ k,k<ops.size→(listed.setIfInBounds i true).getD k true=(if i=k then true else listed.getD k true):=by
   intro k hk
   simp only [Array.getD_eq_getD_getElem?,Array.getElem?_setIfInBounds]
   by_cases hik:i=k
   ·subst hik;simp [hls,hlt]
   ·simp [hik]
  have hS:(fun k=>(k<ops.size∧listed.getD k true=true) ∨ k=i)=fun k=>k<ops.size∧(listed.setIfInBounds i true).getD k true=true:=by
   funext k
   apply propext
   constructor
   ·rintro (⟨g1,g2⟩|rfl)
    ·refine ⟨g1,?_⟩
     rw [hset k g1];split
     ·rfl
     ·exact g2
    ·exact ⟨hlt,by rw [hset k hlt,if_pos rfl]⟩
   ·rintro ⟨g1,g2⟩
    rw [hset k g1] at g2
    by_cases hik:i=k
    ·exact .inr hik.symm
    ·rw [if_neg hik] at g2;exact .inl ⟨g1,g2⟩
  rw [hS] at I'
  refine ih _ b' μ' a' w' (by simpa using hls) I' ?_
  have:=countP_lt (p:=fun k=>!(listed.setIfInBounds i true).getD k true) (q:=fun k=>!listed.getD k true) (l:=List.range ops.size) (fun k hk h=>by
   rw [hset k (List.mem_range.1 hk)] at h
   by_cases hik:i=k
   ·rw [if_pos hik] at h;cases h
   ·rwa [if_neg hik] at h) ⟨i,List.mem_range.2 hlt,by simp [h2.1],by simp [hset i hlt]⟩
  omega
theorem any_region (hF:∀ f,F.fn f) (hd:F.depth=none) (hm:P.follows .mixedOrders=true) (hcall:CallSound P F call) (hg:CallGrow call) {id:Nat} {s s':St} {a:Act} {w:World} {μ:Mu} (hD:DrawOk (quietB P) wd ops)
  (hsz:∀ o ∈ ops,tmpLt a.tmps.size o.dst=true) (hb:base≤s.h.length) (H:HRel P μ s.h w) (hf:∀ t,VR μ (s.fr t) (a.tmps.getD t undef)) (hl:LooseOk P call base wd ops s) (hv:evOps P call base ops (!wd) ops.toList s=some s')
  {Q:Exit→Act→World→Prop} (hQ:∀ a' w' μ',Reach P base μ s.h w a s' a' w' μ'→Q .normal a' w'):(Code.region id ops true).wpIn F 0 P Q a w:=by
 refine wpIn_region_any hm ?_
 obtain ⟨s1,s2,s3⟩:=stN_spec ops.toList s s' hv
 have s2':stN P call base ops (!wd) ops.toList s ops.size=s':=by rw [← s2];simp
 have bases:∀ k,k≤ops.size→base≤(stN P call base ops (!wd) ops.toList s k).h.length:=by
  intro k
  induction k with
  | zero =>
       intro _;have:stN P call base ops (!wd) ops.toList s 0=s:=by cases ops.toList<;>rfl
       rw [this];exact hb
  | succ k ih =>
   intro hk
   have hget:ops.toList[k]?=some ops[k]:=by simp
   exact Nat.le_trans (ih (by omega)) (stepOp_grow hg (ih (by omega)) (s1 k _ hget)).1
 have s0:stN P call base ops (!wd) ops.toList s 0=s:=by cases ops.toList<;>rfl
 have T:Text P call base wd ops (stN P call base ops (!wd) ops.toList s):=by
  refine ⟨fun k o ho=>s1 k o (by simpa using ho),fun k hk=>?_,by rw [s0];exact hb,fun i hi=>?_⟩
  ·have hget:ops.toList[k]?=some ops[k]:=by simp [hk]
   exact stepOp_grow hg (bases k (by omega)) (s1 k _ hget)
  ·obtain ⟨o,x,v,h1,h2,h34⟩:=hl i hi
   have hlt:i<ops.size:=(Array.getElem?_eq_some_iff.1 h1).1
   have hx:x=stN P call base ops (!wd) ops.toList s i:=by
    have:=s3 i (by simp;omega)
    rw [h2] at this;exact Option.some.inj this
   subst hx
   exact ⟨o,v,h1,fun hg=>⟨fun j hj hm=>(h34 hg).1 j _ (s3 j (by simpa using hj)) hm,by rw [s0];exact (h34 hg).2⟩⟩
 have H':HRel P μ s.h { w with drawn:=w.drawn+1 }:=H.world (fun k hk=>rfl) (Nat.le_refl _)
 refine any_walk hF hd hcall T hD (μ0:=μ) (w0:={ w with drawn:=w.drawn+1 }) (a0:=a) (by rw [s0];exact H') (fun i o ho=>hsz o (Array.mem_of_getElem? ho)) (fun a' w' μ' R=>?_) ops.size (Array.replicate ops.size false) 0 μ a _ (by simp) ?_ ?_
 ·rw [s0,s2'] at R
  refine hQ a' w' μ' ⟨R.le,R.fr,R.rel,⟨R.evo.size,R.evo.os,R.evo.tape,R.evo.output,R.evo.keep,R.evo.anew⟩,R.fresh,R.grow,R.size,R.defers⟩
 ·have I:=DInv.init T (w0:={ w with drawn:=w.drawn+1 }) (a0:=a) (μ0:=μ) (by rw [s0];exact H') (by rw [s0];exact hf)
  have hS:(fun _:Nat=>False)=fun k=>k<ops.size∧(Array.replicate ops.size false).getD k true=true:=by
   funext k
   apply propext
   refine ⟨False.elim,fun ⟨h1,h2⟩=>?_⟩
   rw [Array.getD_eq_getD_getElem?] at h2
   simp [h1] at h2
  rw [hS] at I
  exact I
 ·exact Nat.le_trans List.countP_le_length (by simp)
end
end Go.AM
namespace Go.AM
section
variable {P:Program} {raw:FuncId→Bool} {base:Nat}
theorem ren_wr {f:Nat→Nat→Nat × Nat} (b:ABody):(b.ren f).wr=b.wr:=by cases b<;>rfl
theorem compactBy_grow {h h1 h2:Heap} {v v':AVal} {ids:List Nat} (hg:Grow h.length h h1) (hc:compactBy ids h.length v h1=some (v',h2)):Grow h.length h h2:=by
 unfold compactBy at hc
 split at hc
 ·rename_i hcond
  obtain ⟨_,c2,_,c4⟩:=hcond
  simp only [Option.some.injEq,Prod.mk.injEq] at hc
  obtain ⟨_,rfl⟩:=hc
  have hlen:(h1.take h.length).length=h.length:=by simp;omega
  have lo:∀ {i:Nat} {b:ABlk} {X:Heap},i<h.length→(h1.take h.length++X)[i]?=some b→h1[i]?=some b:=by
   intro i b X hi hb
   rwa [List.getElem?_append_left (by omega),List.getElem?_take,if_pos hi] at hb
  refine ⟨by simp;omega,fun id hid b' hb'=>hg.2.1 id hid b' (lo hid hb'),fun id b b' hb hb'=>hg.2.2.1 id b b' hb (lo (lt_of_get hb) hb'),fun id b' hb' hw=>?_⟩
  rcases Nat.lt_or_ge id h.length with hi|hi
  ·exact hg.2.2.2 id b' (lo hi hb') hw
  ·rw [List.getElem?_append_right (by omega),hlen,List.getElem?_map] at hb'
   obtain ⟨i,hi',rfl⟩:=Option.map_eq_some_iff.1 hb'
   have h4:=List.all_eq_true.1 c4 i (List.mem_of_getElem? hi')
   simp only [Bool.and_eq_true,decide_eq_true_eq] at h4
   cases hbk:h1[i]? with
   | none=>rw [hbk] at h4;simp at h4
   | some b =>
    simp only [hbk] at hw
    rw [ren_wr] at hw
    have:=lt_of_get (hg.2.2.2 i b hbk hw)
    omega
 ·cases hc
def EvGrow (ev:Nat→Code→St→Option (AExit × St)):Prop:=∀ (base:Nat) (c:Code) (s s':St) (e:AExit),base≤s.h.length→ev base c s=some (e,s')→Grow base s.h s'.h
theorem ovlA_inv {fn:Func} {args:List AVal} {h:Heap} {r:AVal × Heap} (hv:ovlA P fn args h=some r):r=(.bool false,h):=by
 unfold ovlA at hv
 split at hv
 ·split at hv
  ·exact (Option.some.inj hv).symm
  ·cases hv
 ·cases hv
theorem insA_inv {P:Program} {base:Nat} {f:FuncId} {fn:Func} {args:List AVal} {h:Heap} {r:AVal × Heap} (hv:insA P base f fn args h=some r) :
  ∃ (id v n k m k2:Nat) (i:Int) (id2 v2:Nat) (c:List AVal) (e e2:TypeId) (row2:Bool) (x:AVal),args=[.slice (some ⟨id,v,0⟩) n k,.int .i64 i,.slice (some ⟨id2,v2,0⟩) m k2]∧h[id]?=some ⟨.cells c e true false,v⟩∧h[id2]?=some ⟨.cells [x] e2 row2 false,v2⟩ ∧
   InsF P f e∧fn.body.isSome=true∧n=c.length∧id ≠ id2∧base≤id∧n<2147483647∧(x :: c).all AVal.scalar=true∧r=(.slice (some ⟨id,v+1,0⟩) (n+1) (n+1),h.set id ⟨.cells (c.take i.toNat++x :: c.drop i.toNat) e true false,v+1⟩):=by
 unfold insA at hv
 split at hv
 ·rename_i r0 n k i r2 m k2
  split at hv
  ·rename_i c e v x e2 row2 v2 g1 g2
   split at hv
   ·rename_i hc
    obtain ⟨q1,q2,q3,q4,q5,q6,q7,q8,q9⟩:=hc
    rw [q3,q5]
    exact ⟨r0.id,v,n,k,m,k2,i,r2.id,v2,c,e,e2,row2,x,rfl,by rw [q3] at g1;exact g1,by rw [q5] at g2;exact g2,q1,q2,q4,q6,q7,q8,q9,(Option.some.inj hv).symm⟩
   ·cases hv
  ·cases hv
 ·cases hv
theorem insB_or {P:Program} {base:Nat} {f:FuncId} {fn:Func} {args:List AVal} {h:Heap} {r:AVal × Heap} (hv:insB P base f fn args h=some r) :
  insA P base f fn args h=some r ∨ ins2A P base f fn args h=some r:=by
 unfold insB at hv
 split at hv
 ·rename_i r' q
  exact .inl (q.trans hv)
 ·exact .inr hv
theorem ins2A_inv {P:Program} {base:Nat} {f:FuncId} {fn:Func} {args:List AVal} {h:Heap} {r:AVal × Heap} (hv:ins2A P base f fn args h=some r) :
  ∃ (id v n k m k2:Nat) (id2 v2:Nat) (c:List AVal) (e e2:TypeId) (row2:Bool) (x y:AVal),args=[.slice (some ⟨id,v,0⟩) n k,.int .i64 0,.slice (some ⟨id2,v2,0⟩) m k2]∧h[id]?=some ⟨.cells c e true false,v⟩∧h[id2]?=some ⟨.cells [x,y] e2 row2 false,v2⟩ ∧
   InsF2 P f e∧fn.body.isSome=true∧c.length=n * 2∧id ≠ id2∧base≤id∧n<2147483647∧(x :: y :: c).all AVal.scalar=true∧r=(.slice (some ⟨id,v+1,0⟩) (n+1) (n+1),h.set id ⟨.cells (x :: y :: c) e true false,v+1⟩):=by
 unfold ins2A at hv
 split at hv
 ·rename_i r0 n k i r2 m k2
  split at hv
  ·rename_i c e v x y e2 row2 v2 g1 g2
   split at hv
   ·rename_i hc
    obtain ⟨q1,q2,q3,q4,q5,q6,q7,q8,q0,q9⟩:=hc
    rw [q3,q5,q0]
    exact ⟨r0.id,v,n,k,m,k2,r2.id,v2,c,e,e2,row2,x,y,rfl,by rw [q3] at g1;exact g1,by rw [q5] at g2;exact g2,q1,q2,q4,q6,q7,q8,q9,(Option.some.inj hv).symm⟩
   ·cases hv
  ·cases hv
 ·cases hv
theorem intsOf_is:∀ {c:List AVal} {zs:List Int},intsOf c=some zs→c=zs.map fun z=>AVal.int .i64 z
 | [],zs,h=>by cases h;rfl
 | x :: l,zs,h=>by
  unfold intsOf at h
  split at h
  ·rename_i q;cases q
  ·rename_i n l' q
   cases q
   obtain ⟨ys,h1,rfl⟩:=Option.map_eq_some_iff.1 h
   rw [intsOf_is h1];rfl
  ·cases h
theorem srtA_inv {P:Program} {f:FuncId} {fn:Func} {args:List AVal} {h:Heap} {r:AVal × Heap} (hv:srtA P f fn args h=some r) :
  ∃ (id v n k:Nat) (zs:List Int) (e:TypeId) (row:Bool),args=[.slice (some ⟨id,v,0⟩) n k]∧h[id]?=some ⟨.cells (zs.map fun z=>AVal.int .i64 z) e row false,v⟩ ∧
   (∃ e,SrtF P f e)∧fn.body.isSome=true∧n=zs.length∧n<2147483648∧0<n∧r=(.tuple [],h.set id ⟨.cells ((zs.mergeSort fun x y=>decide (x≤y)).map fun z=>AVal.int .i64 z) e row false,v⟩):=by
 unfold srtA at hv
 split at hv
 ·rename_i r0 n k
  split at hv
  ·rename_i c e row v g1
   split at hv
   ·rename_i zs hz
    split at hv
    ·rename_i hc
     obtain ⟨q1,q2,q3,q4,q5,q6⟩:=hc
     rw [q3]
     rw [intsOf_is hz] at g1
     exact ⟨r0.id,v,n,k,zs,e,row,rfl,by rw [q3] at g1;exact g1,q1,q2,q4,q5,q6,(Option.some.inj hv).symm⟩
    ·cases hv
   ·cases hv
  ·cases hv
 ·cases hv
theorem extA_grow {P:Program} {base:Nat} {f:FuncId} {fn:Func} {args:List AVal} {h h':Heap} {v:AVal} (hv:extA P base f fn args h=some (v,h')):Grow base h h':=by
 unfold extA at hv
 split at hv
 ·rcases insB_or hv with hv|hv
  ·obtain ⟨id,ver,n,k,m,k2,i,id2,v2,c,e,e2,row2,x,-,g1,-,-,-,-,-,hb,-,-,q⟩:=insA_inv hv
   cases q
   exact Grow.set g1 (fun hid=>by omega) (Nat.le_succ _)
  ·obtain ⟨id,ver,n,k,m,k2,id2,v2,c,e,e2,row2,x,y,-,g1,-,-,-,-,-,hb,-,-,q⟩:=ins2A_inv hv
   cases q
   exact Grow.set g1 (fun hid=>by omega) (Nat.le_succ _)
 ·split at hv
  ·obtain ⟨id,ver,n,k,zs,e,row,-,g1,-,-,-,-,-,q⟩:=srtA_inv hv
   cases q
   refine Grow.set g1 (fun hid=>?_) (Nat.le_refl _)
   intro x hx
   obtain ⟨z,_,rfl⟩:=List.mem_map.1 hx
   exact .inl rfl
  ·have:=ovlA_inv hv
   cases this
   exact .rfl
theorem callWith_grow {ev:Nat→Code→St→Option (AExit × St)} (hev':EvGrow ev):CallGrow (callWith P raw ev):=by
 have hev:∀ {base:Nat} {c:Code} {s s':St} {e:AExit},base≤s.h.length→ev base c s=some (e,s')→Grow base s.h s'.h:=fun h k=>hev' _ _ _ _ _ h k
 intro base v args h r h' hb hv
 unfold callWith at hv
 split at hv
 ·split at hv
  ·split at hv
   ·split at hv
    ·cases hv
    ·rename_i s' _ hs'
     split at hv
     ·rename_i v' hres
      split at hv
      ·rename_i hr
       rw [if_pos hr] at hs'
       simp only [Option.some.injEq,Prod.mk.injEq] at hv
       obtain ⟨_,rfl⟩:=hv
       exact hev hb hs'
      ·rename_i hr
       rw [if_neg hr] at hs'
       have g:=hev' _ _ _ _ _ (by simp) hs'
       exact (compactBy_grow g hv).mono hb
     ·cases hv
    ·cases hv
   ·split at hv
    ·exact extA_grow hv
    ·cases hv
  ·cases hv
 ·rename_i l
  split at hv
  ·rename_i L hL
   split at hv
   ·split at hv
    ·rename_i s1 h1
     split at hv
     ·rename_i L1 hL1
      split at hv
      ·split at hv
       ·rename_i e s2 h2
        split at hv
        ·rename_i L2 hL2
         simp only [Option.some.injEq,Prod.mk.injEq] at hv
         obtain ⟨_,rfl⟩:=hv
         have g1:Grow base h s1.h:=hev hb h1
         have g2:Grow base s1.h (s1.h.set l ⟨.loop { L1 with state:=.busy },0⟩):=.set hL1 (fun _=>rfl) (Nat.le_refl _)
         have hb2:base≤(s1.h.set l ⟨.loop { L1 with state:=.busy },0⟩).length:=by simp;exact Nat.le_trans hb g1.1
         have g3:Grow base (s1.h.set l ⟨.loop { L1 with state:=.busy },0⟩) s2.h:=hev hb2 h2
         exact ((g1.trans g2).trans g3).trans (.set hL2 (fun _=>rfl) (Nat.le_refl _))
        ·cases hv
       ·cases hv
      ·cases hv
     ·cases hv
    ·cases hv
   ·cases hv
  ·cases hv
 ·cases hv
theorem evC_grow:∀ (n:Nat),EvGrow (evC P raw n)
 | 0=>fun _ _ _ _ _ _ h=>by simp [evC] at h
 | n+1=>fun base c s s' e hb hv=>by
  have ih':EvGrow (evC P raw n):=evC_grow n
  have ih:∀ {base:Nat} {c:Code} {s s':St} {e:AExit},base≤s.h.length→evC P raw n base c s=some (e,s')→Grow base s.h s'.h:=fun h k=>ih' _ _ _ _ _ h k
  cases c with
  | skip=>simp only [evC,Option.some.injEq,Prod.mk.injEq] at hv;obtain ⟨_,rfl⟩:=hv;exact .rfl
  | label l=>simp only [evC,Option.some.injEq,Prod.mk.injEq] at hv;obtain ⟨_,rfl⟩:=hv;exact .rfl
  | region id ops draw =>
   simp only [evC] at hv
   split at hv
   ·cases hv
   ·split at hv
    ·rename_i s1 h1
     simp only [Option.some.injEq,Prod.mk.injEq] at hv
     obtain ⟨_,rfl⟩:=hv
     exact evOps_grow (callWith_grow ih') hb h1
    ·cases hv
  | seq a b =>
   simp only [evC] at hv
   split at hv
   ·rename_i s1 h1
    have g:=ih hb h1
    exact g.trans (ih (Nat.le_trans hb g.1) hv)
   ·exact ih hb hv
  | cond g a b =>
   simp only [evC] at hv
   split at hv
   ·exact ih hb hv
   ·cases hv
  | block id b =>
   simp only [evC] at hv
   split at hv
   ·rename_i id' s1 h1
    split at hv<;>(simp only [Option.some.injEq,Prod.mk.injEq] at hv;obtain ⟨_,rfl⟩:=hv;exact ih hb h1)
   ·exact ih hb hv
  | loop b =>
   simp only [evC] at hv
   split at hv
   ·rename_i s1 h1
    have g:=ih hb h1
    exact g.trans (ih (Nat.le_trans hb g.1) hv)
   ·exact ih hb hv
  | exit id=>simp only [evC,Option.some.injEq,Prod.mk.injEq] at hv;obtain ⟨_,rfl⟩:=hv;exact .rfl
  | scope b=>simp only [evC] at hv;exact ih hb hv
  | ret=>simp only [evC,Option.some.injEq,Prod.mk.injEq] at hv;obtain ⟨_,rfl⟩:=hv;exact .rfl
  | goto l=>simp [evC] at hv
  | refuse w=>simp [evC] at hv
  | rangeFunc g ps assign body =>
   simp only [evC] at hv
   split at hv
   ·split at hv
    ·rename_i r h2 hcall
     have hb1:base≤(s.h++[(⟨.loop { state:=.ready,pending:=.none,fr:=s.fr,params:=ps.toList,assign,body },0⟩:ABlk)]).length:=by simp;omega
     have g1:Grow base s.h (s.h++[(⟨.loop { state:=.ready,pending:=.none,fr:=s.fr,params:=ps.toList,assign,body },0⟩:ABlk)]):=.push hb
     have g2:=g1.trans (callWith_grow ih' hb1 hcall)
     split at hv
     ·rename_i L hL
      have g3:Grow base h2 (h2.set s.h.length ⟨.loop { L with state:=.exhausted },0⟩):=.set hL (fun _=>rfl) (Nat.le_refl _)
      split at hv
      ·cases hv
      ·split at hv<;>first|(cases hv;done)|(simp only [Option.some.injEq,Prod.mk.injEq] at hv;obtain ⟨_,rfl⟩:=hv;exact g2.trans g3)
     ·cases hv
    ·cases hv
   ·cases hv
end
section
variable {P:Program} {μ:Mu} {h:Heap} {w:World}
theorem tmpLt_mono {n m:Nat} {d:Option Tmp} (hnm:n≤m) (h:tmpLt n d=true):tmpLt m d=true:=by
 cases d with
 | none=>rfl
 | some d=>simp [tmpLt] at h ⊢;exact Nat.lt_of_lt_of_le h hnm
theorem okS_mono {n m:Nat} (hnm:n≤m):∀ {rng:Bool} {c:Code},okS rng n c=true→okS rng m c=true:=by
 intro rng c
 induction c generalizing rng with
 | region id ops draw =>
  simp only [okS,Bool.and_eq_true]
  refine fun h=>⟨?_,h.2⟩
  exact Array.all_eq_true'.2 fun o ho=>tmpLt_mono hnm (Array.all_eq_true'.1 h.1 o ho)
 | seq a b iha ihb=>simp only [okS,Bool.and_eq_true];exact fun h=>⟨iha h.1,ihb h.2⟩
 | cond g a b iha ihb=>simp only [okS,Bool.and_eq_true];exact fun h=>⟨iha h.1,ihb h.2⟩
 | block id b ih=>simpa only [okS] using ih
 | loop b ih=>simpa only [okS] using ih
 | scope b ih=>simpa only [okS] using ih
 | rangeFunc g ps a b iha ihb =>
  simp only [okS,Bool.and_eq_true]
  refine fun h=>⟨⟨⟨h.1.1.1,?_⟩,iha h.1.2⟩,ihb h.2⟩
  exact Array.all_eq_true'.2 fun t ht=>by have:=Array.all_eq_true'.1 h.1.1.2 t ht;simp at this ⊢;exact Nat.lt_of_lt_of_le this hnm
 | _=>simp [okS]
theorem getD_app (A:Array Value) (n t:Nat):(A++Array.replicate n undef).getD t undef=A.getD t undef:=by
 simp only [Array.getD_eq_getD_getElem?,Array.getElem?_append]
 split
 ·rfl
 ·rename_i hn
  rw [Array.getElem?_eq_none (xs:=A) (by omega),Array.getElem?_replicate]
  split<;>rfl
theorem argFr_VR {args:List AVal} {A:Array Value} (ha:VRs μ args A.toList) (n:Nat):∀ t,VR μ (argFr args t) ((A++Array.replicate n undef).getD t undef):=by
 intro t
 rw [getD_app,argFr,Array.getD_eq_getD_getElem?]
 rcases Nat.lt_or_ge t args.length with hi|hi
 ·have h1:t<A.size:=by have:=ha.1;simp at this;omega
  rw [List.getElem?_eq_getElem hi,Array.getElem?_eq_getElem h1]
  exact ha.2 t _ _ (List.getElem?_eq_getElem hi) (by simp [h1])
 ·have h1:A.size≤t:=by have:=ha.1;simp at this;omega
  rw [List.getElem?_eq_none hi,Array.getElem?_eq_none h1]
  exact VR_undef
theorem putAll_VR:∀ (ps:List Tmp) (args:List AVal) (A:List Value) (fr:AFrame) (tmps:Array Value),(∀ t,VR μ (fr t) (tmps.getD t undef))→VRs μ args A→(ps.all fun t=>decide (t<tmps.size))=true →
  ∀ t,VR μ (putAll fr ps args t) (((ps.zip A).foldl (fun tmps (p:Tmp × Value)=>tmps.setIfInBounds p.1 p.2) tmps).getD t undef)
 | [],args,A,fr,tmps,hf,ha,hp=>by intro t;simpa [putAll] using hf t
 | p :: ps,[],A,fr,tmps,hf,ha,hp=>by
  have:A=[]:=by have:=ha.1;simp at this;exact List.eq_nil_of_length_eq_zero this.symm
  subst this
  intro t;simpa [putAll] using hf t
 | p :: ps,x :: args,[],fr,tmps,hf,ha,hp=>by have:=ha.1;simp at this
 | p :: ps,x :: args,X :: A,fr,tmps,hf,ha,hp=>by
  simp only [List.all_cons,Bool.and_eq_true,decide_eq_true_eq] at hp
  simp only [putAll,List.zip_cons_cons,List.foldl_cons]
  refine putAll_VR ps args A _ _ (fun t=>?_) ha.tail (by simpa using hp.2)
  simp only [put]
  rw [getD_setIfInBounds _ _ _ _ hp.1]
  split
  ·exact ha.head
  ·exact hf t
theorem foldl_set_size:∀ (l:List (Tmp × Value)) (tmps:Array Value),(l.foldl (fun tmps (p:Tmp × Value)=>tmps.setIfInBounds p.1 p.2) tmps).size=tmps.size
 | [],_=>rfl
 | p :: l,tmps=>by rw [List.foldl_cons,foldl_set_size l];simp
def resVar (tmps:Array Value):ResultVar→Sem Value
 | .tmp t=>pure (tmps.getD t undef)
 | .cell a t=>do loadVar t (← asAddr (tmps.getD a undef))
theorem results_eq (fn:Func) (tmps:Array Value):results fn tmps=(do let vs ← fn.results.mapM (resVar tmps);pure (if h:vs.size=1 then vs[0] else .tuple vs)):=by
 have:(fun r:ResultVar=>(match r with|.tmp t=>pure (tmps.getD t undef)|.cell a t=>do loadVar t (← asAddr (tmps.getD a undef)):Sem Value))=resVar tmps:=by
  funext r;cases r<;>rfl
 rw [← this];rfl
theorem resVar_sound (H:HRel P μ h w) {fr:AFrame} {tmps:Array Value} (hf:∀ t,VR μ (fr t) (tmps.getD t undef)) {r:ResultVar} {v:AVal} (h1:resultA P fr h r=some v):∃ V,(resVar tmps r).run P w=.ok V w∧VR μ v V:=by
 cases r with
 | tmp t=>simp only [resultA,Option.some.injEq] at h1;subst h1;exact ⟨tmps.getD t undef,rfl,hf t⟩
 | cell a t =>
  simp only [resultA] at h1
  split at h1
  ·rename_i rr hr
   have hx:=hf a
   rw [hr] at hx
   generalize hX:tmps.getD a undef=X at hx
   cases hx with
   | ptr _ L hL =>
    obtain ⟨V,h3,h4⟩:=loadA_sound H h1 hL
    exact ⟨V,by simp only [resVar,hX,Sem.run_bind,asAddr,Sem.run_pure,Result.andThen_ok];exact h3,h4⟩
  ·cases h1
theorem resultsL_sound (H:HRel P μ h w) {fr:AFrame} {tmps:Array Value} (hf:∀ t,VR μ (fr t) (tmps.getD t undef)):∀ (rs:List ResultVar) (vs:List AVal),resultsL P fr h rs=some vs →
  ∃ VS,(rs.mapM (resVar tmps)).run P w=.ok VS w∧VRs μ vs VS
 | [],vs,hv=>by
  simp only [resultsL,Option.some.injEq] at hv;subst hv
  exact ⟨[],by simp,.nil⟩
 | r :: rs,vs,hv=>by
  simp only [resultsL] at hv
  split at hv
  ·rename_i v vs' h1 h2
   simp only [Option.some.injEq] at hv;subst hv
   obtain ⟨VS,hrun,hvs⟩:=resultsL_sound H hf rs vs' h2
   obtain ⟨V,hV,hvV⟩:=resVar_sound H hf h1
   exact ⟨V :: VS,by simp [List.mapM_cons,hV,hrun],.cons hvV hvs⟩
  ·cases hv
theorem resultsA_sound (H:HRel P μ h w) {fr:AFrame} {tmps:Array Value} (hf:∀ t,VR μ (fr t) (tmps.getD t undef)) {fn:Func} {v:AVal} (hv:resultsA P fn fr h=some v):∃ V,(results fn tmps).run P w=.ok V w∧VR μ v V:=by
 unfold resultsA at hv
 have key:∀ vs,resultsL P fr h fn.results.toList=some vs→∃ VS:Array Value,(fn.results.mapM (resVar tmps)).run P w=.ok VS w∧VRs μ vs VS.toList:=by
  intro vs hvs
  obtain ⟨VS,h1,h2⟩:=resultsL_sound H hf fn.results.toList vs hvs
  refine ⟨VS.toArray,?_,by simpa using h2⟩
  rw [Array.mapM_eq_mapM_toList]
  simp [h1]
 rw [results_eq]
 split at hv
 ·rename_i x hx
  simp only [Option.some.injEq] at hv;subst hv
  obtain ⟨VS,h1,h2⟩:=key _ hx
  obtain ⟨X,hX,hx'⟩:=args_one h2
  have:VS=#[X]:=by rw [← Array.toArray_toList (xs:=VS),hX]
  subst this
  exact ⟨X,by simp only [Sem.run_bind,h1,Result.andThen_ok];simp,hx'⟩
 ·rename_i vs hne hvs
  simp only [Option.some.injEq] at hv;subst hv
  obtain ⟨VS,h1,h2⟩:=key _ hvs
  refine ⟨.tuple VS,?_,h2.tuple⟩
  have hsz:VS.size ≠ 1:=by
   intro e
   have:=h2.1
   simp only [Array.length_toList,e] at this
   match vs,this with
   | [x],_=>exact hne x rfl
  simp only [Sem.run_bind,h1,Result.andThen_ok];simp [hsz]
 ·cases hv
theorem wpIn_scope {F:Fence} {n:Nat} {c:Code} {Q:Exit→Act→World→Prop} {a:Act} {w:World} (h:c.wpIn F n P Q a w) (hng:∀ l a w,¬ Q (.goto l) a w):(Code.scope c).wpIn F n P Q a w:=by
 intro b k cs hro hb hr
 have s1:step P (lone (b.atR a (.code (.scope c) :: k)) cs w)=.next (lone (b.atR a (.code c :: .inScope c :: k)) cs w):=step_lone_go (by simp [stepG,stepG.exec,Frame.atR])
 have s2:∀ a w,step P (lone (b.atR a (.inScope c :: k)) cs w)=.next (lone (b.atR a k) cs w):=fun a w=>step_lone_go (by simp [stepG,stepG.exec,Frame.atR])
 have h0:(lone (b.atR a (.code (.scope c) :: k)) cs w).fenced P F:=fenced_calm hb hr rfl
 obtain ⟨e,a₁,w₁,hq,harr⟩:=h b (.inScope c :: k) cs hro hb hr
 cases e with
 | normal=>exact ⟨.normal,a₁,w₁,hq,.head h0 s1 (StepsIn.trans harr (.one (fenced_calm hb hr rfl) (s2 _ _)))⟩
 | exit id =>
  have hx:exitTo id (.inScope c :: k)=exitTo id k:=by simp [exitTo]
  exact ⟨.exit id,a₁,w₁,hq,fun k' hk=>.head h0 s1 (harr.1 k' (by rw [hx];exact hk)),
   fun hr' hk=>let ⟨k₁,h1,h2⟩:=harr.2 hr' (by rw [hx];exact hk);⟨k₁,h1,.head h0 s1 h2⟩⟩
 | goto l=>exact absurd hq (hng _ _ _)
 | ret=>exact ⟨_,a₁,w₁,hq,.of_steps (.one h0 s1) harr⟩
 | panic ch=>exact ⟨_,a₁,w₁,hq,.of_steps (.one h0 s1) harr⟩
 | outgrown=>exact ⟨_,a₁,w₁,hq,.of_steps (.one h0 s1) harr⟩
end
end Go.AM
