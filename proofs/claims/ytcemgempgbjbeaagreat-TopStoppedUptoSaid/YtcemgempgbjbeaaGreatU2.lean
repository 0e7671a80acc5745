/-
  What becomes of the relation between heaps where a block is made, written, or grown.
-/
import Derived.Test.YtcemgempgbjbeaaGreatU1
set_option linter.unusedSimpArgs false
set_option linter.unusedVariables false
namespace Go.AM
structure Calm (w w':World):Prop where
  os:w'.os=w.os
  tape:w'.tape=w.tape
  output:w'.output=w.output
theorem Calm.rfl {w:World}:Calm w w:=⟨_root_.rfl,_root_.rfl,_root_.rfl⟩
theorem mem_refsL:∀ {l:List AVal} {x:AVal} {r:Nat × Nat},x ∈ l→r ∈ x.refs→r ∈ refsL l
  | y :: ys,x,r,hx,hr=>by
    simp only [refsL,List.mem_append]
    rcases List.mem_cons.1 hx with rfl|hx
    · exact .inl hr
    · exact .inr (mem_refsL hx hr)
theorem mem_refsL_inv:∀ {l:List AVal} {r:Nat × Nat},r ∈ refsL l→∃ x ∈ l,r ∈ x.refs
  | [],r,h=>by simp [refsL] at h
  | y :: ys,r,h=>by
    simp only [refsL,List.mem_append] at h
    rcases h with h|h
    · exact ⟨y,by simp,h⟩
    · obtain ⟨x,hx,hr⟩:=mem_refsL_inv h
      exact ⟨x,by simp [hx],hr⟩
theorem bare_refs {x:AVal} (hx:x.bare=true):x.refs=[]:=by
  unfold AVal.bare at hx
  split at hx<;>first|(simp [AVal.refs,refsL];done)|(cases hx;done)
theorem bare_refsL:∀ {l:List AVal},l.all AVal.bare=true→refsL l=[]
  | [],_=>rfl
  | x :: xs,h=>by simp at h;simp [refsL,bare_refs h.1,bare_refsL (l:=xs) (by simpa using h.2)]
section
variable {P:Program} {base:Nat} {μ μ':Mu} {h:Heap} {w w':World}
theorem VR.refs_dom {x:AVal} {X:Value} (hx:VR μ x X) (hanon:∀ b l,μ.anon b=some l→refsL l=[]):∀ r ∈ x.refs,∃ L,μ.loc r.1 r.2=some L:=by
  induction hx with
  | ptr r L h=>intro q hq;simp [AVal.refs] at hq;subst hq;exact ⟨L,h⟩
  | slice r L n k C h hk hn hc hl =>
    intro q hq
    simp only [AVal.refs] at hq
    rw [if_neg (by omega)] at hq
    simp at hq;subst hq;exact ⟨L,h⟩
  | vals b l h=>intro q hq;simp [AVal.refs,hanon b l h] at hq
  | map r L h=>intro q hq;simp [AVal.refs] at hq;subst hq;exact ⟨L,h⟩
  | yld l L h=>intro q hq;simp [AVal.refs] at hq;subst hq;exact ⟨L,h⟩
  | fn f a b A B ha hb h1 h2 ih1 ih2 =>
    intro q hq
    simp only [AVal.refs,List.mem_append] at hq
    rcases hq with hq|hq
    · obtain ⟨y,hy,hr⟩:=mem_refsL_inv hq
      obtain ⟨i,hi,rfl⟩:=List.mem_iff_getElem.1 hy
      exact ih1 i _ A[i] (List.getElem?_eq_getElem hi) (Array.getElem?_eq_getElem (ha ▸ hi)) q hr
    · obtain ⟨y,hy,hr⟩:=mem_refsL_inv hq
      obtain ⟨i,hi,rfl⟩:=List.mem_iff_getElem.1 hy
      exact ih2 i _ B[i] (List.getElem?_eq_getElem hi) (Array.getElem?_eq_getElem (hb ▸ hi)) q hr
  | agg a A ha h1 ih =>
    intro q hq
    obtain ⟨y,hy,hr⟩:=mem_refsL_inv (by simpa [AVal.refs] using hq)
    obtain ⟨i,hi,rfl⟩:=List.mem_iff_getElem.1 hy
    exact ih i _ A[i] (List.getElem?_eq_getElem hi) (Array.getElem?_eq_getElem (ha ▸ hi)) q hr
  | tuple a A ha h1 ih =>
    intro q hq
    obtain ⟨y,hy,hr⟩:=mem_refsL_inv (by simpa [AVal.refs] using hq)
    obtain ⟨i,hi,rfl⟩:=List.mem_iff_getElem.1 hy
    exact ih i _ A[i] (List.getElem?_eq_getElem hi) (Array.getElem?_eq_getElem (ha ▸ hi)) q hr
  | _=>intro q hq;simp [AVal.refs] at hq
theorem BR.step {b:ABody} {L:Loc} (hb:BR P μ b L w) (hm:μ.le μ') (hw:w'.heap[L.blk]?=w.heap[L.blk]?):BR P μ' b L w':=by
  cases b with
  | cells c e row ro =>
    obtain ⟨C,T,fz,h1,h2,h3,h4,h5,h6⟩:=hb
    exact ⟨C,T,fz,hw.trans h1,h2,h3,fun i x y hx hy=>(h4 i x y hx hy).mono hm,h5,h6⟩
  | map es =>
    obtain ⟨E,c,h1,h2,h3⟩:=hb
    exact ⟨E,c,hw.trans h1,⟨h2.1,fun i k v e hk he=>let ⟨a,b,c⟩:=h2.2 i k v e hk he;⟨a.mono hm,b.mono hm,c⟩⟩,h3⟩
  | loop l =>
    obtain ⟨l',h1,h2,h3,h4,h5,h6,h7,h8⟩:=hb
    exact ⟨l',hw.trans h1,h2,h3,h4,h5,h6,fun t=>(h7 t).mono hm,h8⟩
def Mu.add (μ:Mu) (id v:Nat) (L:Loc):Mu:={ μ with loc:=fun i u=>if i=id∧u=v then some L else μ.loc i u }
theorem Mu.add_le {id v:Nat} {L:Loc} (h0:μ.loc id v=.none):μ.le (μ.add id v L):=by
  refine ⟨fun i u M hM=>?_,fun b l hb=>hb⟩
  simp only [Mu.add]
  split
  · rename_i hc;obtain ⟨rfl,rfl⟩:=hc;rw [h0] at hM;cases hM
  · exact hM
theorem Mu.add_same {id v:Nat} {L:Loc}:(μ.add id v L).loc id v=some L:=by simp [Mu.add]
theorem Mu.add_other {id v i u:Nat} {L:Loc} (hne:¬ (i=id∧u=v)):(μ.add id v L).loc i u=μ.loc i u:=by simp [Mu.add,hne]
theorem HRel.none_of_len (H:HRel P μ h w) {id v:Nat} (hid:h.length≤id):μ.loc id v=.none:=by
  cases hc:μ.loc id v with
  | none=>rfl
  | some L =>
    obtain ⟨b,hb,_⟩:=H.dom id v L hc
    simp [List.getElem?_eq_none hid] at hb
theorem HRel.none_of_ver (H:HRel P μ h w) {id v:Nat} {b:ABlk} (hb:h[id]?=some b) (hv:b.ver<v):μ.loc id v=.none:=by
  cases hc:μ.loc id v with
  | none=>rfl
  | some L =>
    obtain ⟨b',hb',hle,_⟩:=H.dom id v L hc
    rw [hb] at hb';cases hb';omega
theorem get_push_inv {b:ABlk} {i:Nat} {c:ABlk} (hc:(h++[b])[i]?=some c):(i<h.length∧h[i]?=some c) ∨ (i=h.length∧c=b):=by
  rcases Nat.lt_or_ge i h.length with hi|hi
  · rw [List.getElem?_append_left hi] at hc;exact .inl ⟨hi,hc⟩
  · rw [List.getElem?_append_right hi] at hc
    cases hk:i-h.length with
    | zero=>rw [hk] at hc;simp at hc;exact .inr ⟨by omega,hc.symm⟩
    | succ k=>rw [hk] at hc;simp at hc
theorem lt_of_get {b:ABlk} {i:Nat} (hb:h[i]?=some b):i<h.length:=by
  rcases Nat.lt_or_ge i h.length with hi|hi
  · exact hi
  · simp [List.getElem?_eq_none hi] at hb
theorem HRel.world (H:HRel P μ h w) (hw:∀ k,k<w.heap.size→w'.heap[k]?=w.heap[k]?) (hs:w.heap.size≤w'.heap.size):HRel P μ h w':=by
  refine ⟨fun id v L hL=>?_,fun id b L hb hL=>?_,H.disj,H.cur,fun b l hb=>?_,H.adom⟩
  · obtain ⟨b,h1,h2,h3⟩:=H.dom id v L hL
    exact ⟨b,h1,h2,Nat.lt_of_lt_of_le h3 hs⟩
  · obtain ⟨_,_,_,h3⟩:=H.dom id _ L hL
    exact (H.blk id b L hb hL).step .rfl (hw _ h3)
  · obtain ⟨⟨C,e,fz,h1,h2⟩,h3⟩:=H.anon b l hb
    have hlt:b<w.heap.size:=by
      rcases Nat.lt_or_ge b w.heap.size with hi|hi
      · exact hi
      · simp [Array.getElem?_eq_none hi] at h1
    exact ⟨⟨C,e,fz,(hw _ hlt).trans h1,h2⟩,h3⟩
theorem HRel.push (H:HRel P μ h w) {b:ABlk} (hv:b.ver=0) {L:Loc} (hc:Calm w w') (hw:∀ k,k<w.heap.size→w'.heap[k]?=w.heap[k]?) (hL:w.heap.size≤L.blk) (hL':L.blk<w'.heap.size)
    (hbr:BR P (μ.add h.length 0 L) b.body L w'):μ.le (μ.add h.length 0 L)∧HRel P (μ.add h.length 0 L) (h++[b]) w'∧Evo μ h w (μ.add h.length 0 L) (h++[b]) w'∧Fresh base μ h (μ.add h.length 0 L):=by
  have hs:w.heap.size≤w'.heap.size:=by omega
  have hle:μ.le (μ.add h.length 0 L):=Mu.add_le (H.none_of_len (Nat.le_refl _))
  have old:∀ {i v:Nat} {M:Loc},i<h.length→(μ.add h.length 0 L).loc i v=some M→μ.loc i v=some M:=by
    intro i v M hi hM
    rwa [Mu.add_other (by omega)] at hM
  have newL:∀ {M:Loc},(μ.add h.length 0 L).loc h.length b.ver=some M→M=L:=by
    intro M hM;rw [hv,Mu.add_same] at hM;exact (Option.some.inj hM).symm
  refine ⟨hle,⟨fun id v M hM=>?_,fun id c M hb hM=>?_,fun i j c d M N hij hc hd hM hN hwr=>?_,fun i v M c hM hc=>?_,fun a l ha=>?_,H.adom⟩,⟨hs,hc.os,hc.tape,hc.output,fun k hk hn=>⟨hw k hk,?_⟩,fun _ _ hl=>.inl hl⟩,fun id v M hM=>?_⟩
  · by_cases hc:id=h.length∧v=0
    · obtain ⟨rfl,rfl⟩:=hc
      rw [Mu.add_same] at hM;cases hM
      exact ⟨b,by simp,by omega,hL'⟩
    · rw [Mu.add_other hc] at hM
      obtain ⟨b',h1,h2,h3⟩:=H.dom id v M hM
      exact ⟨b',by rw [List.getElem?_append_left (lt_of_get h1)];exact h1,h2,by omega⟩
  · rcases get_push_inv hb with ⟨hi,hb⟩|⟨rfl,rfl⟩
    · have hM:=old hi hM
      obtain ⟨_,_,_,h3⟩:=H.dom id _ M hM
      exact (H.blk id c M hb hM).step hle (hw _ h3)
    · rw [newL hM];exact hbr
  · rcases get_push_inv hc with ⟨hi,hc⟩|⟨rfl,rfl⟩<;>rcases get_push_inv hd with ⟨hj,hd⟩|⟨rfl,rfl⟩
    · exact H.disj i j c d M N hij hc hd (old hi hM) (old hj hN) hwr
    · obtain ⟨_,_,_,h3⟩:=H.dom i _ M (old hi hM)
      rw [newL hN];omega
    · obtain ⟨_,_,_,h3⟩:=H.dom j _ N (old hj hN)
      rw [newL hM];omega
    · exact absurd rfl hij
  · rcases get_push_inv hc with ⟨hi,hc⟩|⟨rfl,rfl⟩
    · obtain ⟨N,hN⟩:=H.cur i v M c (old hi hM) hc
      exact ⟨N,hle.loc _ _ _ hN⟩
    · exact ⟨L,by rw [hv];exact Mu.add_same⟩
  · obtain ⟨⟨C,e,fz,h1,h2⟩,h3⟩:=H.anon a l ha
    have hlt:a<w.heap.size:=by
      rcases Nat.lt_or_ge a w.heap.size with hi|hi
      · exact hi
      · simp [Array.getElem?_eq_none hi] at h1
    refine ⟨⟨C,e,fz,(hw _ hlt).trans h1,h2.mono hle⟩,fun id k M hk hM hwr=>?_⟩
    rcases get_push_inv hk with ⟨hi,hk⟩|⟨rfl,rfl⟩
    · exact h3 id k M hk (old hi hM) hwr
    · rw [newL hM];omega
  · rintro ⟨id,c,M,hc,hM,hwr,rfl⟩
    rcases get_push_inv hc with ⟨hi,hc⟩|⟨rfl,rfl⟩
    · exact hn ⟨id,c,M,hc,old hi hM,hwr,rfl⟩
    · rw [newL hM] at hk;omega
  · by_cases hc:id=h.length∧v=0
    · exact .inr (.inl (by omega))
    · rw [Mu.add_other hc] at hM;exact .inl hM
theorem get_set_inv {b:ABlk} {id i:Nat} {c:ABlk} (hc:(h.set id b)[i]?=some c):(i=id∧c=b) ∨ (i ≠ id∧h[i]?=some c):=by
  rw [List.getElem?_set] at hc
  split at hc
  · rename_i he
    split at hc
    · cases hc;exact .inl ⟨he.symm,rfl⟩
    · cases hc
  · rename_i he;exact .inr ⟨fun x=>he x.symm,hc⟩
theorem HRel.upd (H:HRel P μ h w) {id:Nat} {b b':ABlk} {L:Loc} (hb:h[id]?=some b) (hL:μ.loc id b.ver=some L) (hwr:b.body.wr=true) (hv:b'.ver=b.ver) (hc:Calm w w')
    (hw:∀ k,k ≠ L.blk→w'.heap[k]?=w.heap[k]?) (hs:w'.heap.size=w.heap.size) (hbr:BR P μ b'.body L w'):HRel P μ (h.set id b') w'∧Evo μ h w μ (h.set id b') w':=by
  have hid:=lt_of_get hb
  refine ⟨⟨fun i v M hM=>?_,fun i c M hc hM=>?_,fun i j c d M N hij hc hd hM hN hwr'=>?_,fun i v M c hM hc=>?_,fun a l ha=>?_,H.adom⟩,⟨by omega,hc.os,hc.tape,hc.output,fun k hk hn=>?_,fun _ _ hl=>.inl hl⟩⟩
  · obtain ⟨c,h1,h2,h3⟩:=H.dom i v M hM
    by_cases he:i=id
    · subst he;rw [hb] at h1;cases h1
      exact ⟨b',by simp [hid],by omega,by omega⟩
    · exact ⟨c,by rw [List.getElem?_set_ne (fun x=>he x.symm)];exact h1,h2,by omega⟩
  · rcases get_set_inv hc with ⟨rfl,rfl⟩|⟨hne,hc⟩
    · rw [hv,hL] at hM;cases hM;exact hbr
    · exact (H.blk i c M hc hM).step .rfl (hw _ (fun e=>H.disj id i b c L M (fun x=>hne x.symm) hb hc hL hM hwr e.symm))
  · rcases get_set_inv hc with ⟨rfl,rfl⟩|⟨hi,hc'⟩<;>rcases get_set_inv hd with ⟨rfl,rfl⟩|⟨hj,hd'⟩
    · exact absurd rfl hij
    · rw [hv] at hM;exact H.disj _ j b d M N hij hb hd' hM hN hwr
    · rw [hv] at hN;exact H.disj i _ c b M N hij hc' hb hM hN hwr'
    · exact H.disj i j c d M N hij hc' hd' hM hN hwr'
  · rcases get_set_inv hc with ⟨rfl,rfl⟩|⟨hi,hc⟩
    · exact ⟨L,by rw [hv];exact hL⟩
    · exact H.cur i v M c hM hc
  · obtain ⟨⟨C,e,fz,h1,h2⟩,h3⟩:=H.anon a l ha
    refine ⟨⟨C,e,fz,(hw _ (fun x=>h3 id b L hb hL hwr x.symm)).trans h1,h2⟩,fun i k M hk hM hwr'=>?_⟩
    rcases get_set_inv hk with ⟨rfl,rfl⟩|⟨hi,hk⟩
    · rw [hv] at hM;exact h3 _ b M hb hM hwr
    · exact h3 i k M hk hM hwr'
  · have hkL:k ≠ L.blk:=fun e=>hn ⟨id,b,L,hb,hL,hwr,e.symm⟩
    refine ⟨hw k hkL,?_⟩
    rintro ⟨i,c,M,hc,hM,hwr',rfl⟩
    rcases get_set_inv hc with ⟨rfl,rfl⟩|⟨hi,hc⟩
    · rw [hv,hL] at hM;cases hM;exact hkL rfl
    · exact hn ⟨i,c,M,hc,hM,hwr',rfl⟩
theorem HRel.grow (H:HRel P μ h w) {id:Nat} {b b':ABlk} {L:Loc} (hb:h[id]?=some b) (hv:b'.ver=b.ver+1) (hc:Calm w w') (hs:w.heap.size≤w'.heap.size) (hL':L.blk<w'.heap.size)
    (hpl:(μ.loc id b.ver=some L∧b.body.wr=true∧∀ k,k<w.heap.size→k ≠ L.blk→w'.heap[k]?=w.heap[k]?) ∨ (w.heap.size≤L.blk∧∀ k,k<w.heap.size→w'.heap[k]?=w.heap[k]?))
    (hbr:BR P (μ.add id (b.ver+1) L) b'.body L w') (hbase:base≤id ∨ ∃ M,μ.loc id b.ver=some M):μ.le (μ.add id (b.ver+1) L)∧HRel P (μ.add id (b.ver+1) L) (h.set id b') w'∧Evo μ h w (μ.add id (b.ver+1) L) (h.set id b') w'∧Fresh base μ h (μ.add id (b.ver+1) L):=by
  have hid:=lt_of_get hb
  have hle:μ.le (μ.add id (b.ver+1) L):=Mu.add_le (H.none_of_ver hb (by omega))
  have old:∀ {i v:Nat} {M:Loc},i ≠ id→(μ.add id (b.ver+1) L).loc i v=some M→μ.loc i v=some M:=by
    intro i v M hi hM
    rwa [Mu.add_other (by omega)] at hM
  have newL:∀ {M:Loc},(μ.add id (b.ver+1) L).loc id b'.ver=some M→M=L:=by
    intro M hM;rw [hv,Mu.add_same] at hM;exact (Option.some.inj hM).symm
  have apart:∀ {j:Nat} {c:ABlk} {M:Loc},j ≠ id→h[j]?=some c→μ.loc j c.ver=some M→L.blk ≠ M.blk:=by
    intro j c M hj hc hM
    rcases hpl with ⟨hL,hwr,_⟩|⟨hL,_⟩
    · exact H.disj id j b c L M (fun x=>hj x.symm) hb hc hL hM hwr
    · obtain ⟨_,_,_,h3⟩:=H.dom j _ M hM;omega
  have stay:∀ k,k<w.heap.size→k ≠ L.blk→w'.heap[k]?=w.heap[k]?:=by
    rcases hpl with ⟨_,_,h3⟩|⟨_,h3⟩
    · exact h3
    · exact fun k hk _=>h3 k hk
  refine ⟨hle,⟨fun i v M hM=>?_,fun i c M hc hM=>?_,fun i j c d M N hij hc hd hM hN hwr'=>?_,fun i v M c hM hc=>?_,fun a l ha=>?_,H.adom⟩,⟨hs,hc.os,hc.tape,hc.output,fun k hk hn=>?_,fun _ _ hl=>.inl hl⟩,fun i v M hM=>?_⟩
  · by_cases hcs:i=id∧v=b.ver+1
    · obtain ⟨rfl,rfl⟩:=hcs
      rw [Mu.add_same] at hM;cases hM
      exact ⟨b',by simp [hid],by omega,hL'⟩
    · rw [Mu.add_other hcs] at hM
      obtain ⟨c,h1,h2,h3⟩:=H.dom i v M hM
      by_cases he:i=id
      · subst he;rw [hb] at h1;cases h1
        exact ⟨b',by simp [hid],by omega,by omega⟩
      · exact ⟨c,by rw [List.getElem?_set_ne (fun x=>he x.symm)];exact h1,h2,by omega⟩
  · rcases get_set_inv hc with ⟨rfl,rfl⟩|⟨hne,hc⟩
    · rw [newL hM];exact hbr
    · have hM:=old hne hM
      obtain ⟨_,_,_,h3⟩:=H.dom i _ M hM
      exact (H.blk i c M hc hM).step hle (stay _ h3 (fun e=>apart hne hc hM e.symm))
  · rcases get_set_inv hc with ⟨rfl,rfl⟩|⟨hi,hc'⟩<;>rcases get_set_inv hd with ⟨rfl,rfl⟩|⟨hj,hd'⟩
    · exact absurd rfl hij
    · rw [newL hM];exact apart hj hd' (old hj hN)
    · rw [newL hN];exact fun e=>apart hi hc' (old hi hM) e.symm
    · exact H.disj i j c d M N hij hc' hd' (old hi hM) (old hj hN) hwr'
  · rcases get_set_inv hc with ⟨rfl,rfl⟩|⟨hi,hc⟩
    · exact ⟨L,by rw [hv];exact Mu.add_same⟩
    · obtain ⟨N,hN⟩:=H.cur i v M c (old hi hM) hc
      exact ⟨N,hle.loc _ _ _ hN⟩
  · obtain ⟨⟨C,e,fz,h1,h2⟩,h3⟩:=H.anon a l ha
    have hlt:a<w.heap.size:=by
      rcases Nat.lt_or_ge a w.heap.size with hi|hi
      · exact hi
      · simp [Array.getElem?_eq_none hi] at h1
    have hne:a ≠ L.blk:=by
      rcases hpl with ⟨hL,hwr,_⟩|⟨hL,_⟩
      · exact fun e=>h3 id b L hb hL hwr e.symm
      · omega
    refine ⟨⟨C,e,fz,(stay _ hlt hne).trans h1,h2.mono hle⟩,fun i k M hk hM hwr'=>?_⟩
    rcases get_set_inv hk with ⟨rfl,rfl⟩|⟨hi,hk⟩
    · rw [newL hM];exact fun e=>hne e.symm
    · exact h3 i k M hk (old hi hM) hwr'
  · have hkL:k ≠ L.blk:=by
      rcases hpl with ⟨hL,hwr,_⟩|⟨hL,_⟩
      · exact fun e=>hn ⟨id,b,L,hb,hL,hwr,e.symm⟩
      · omega
    refine ⟨stay k hk hkL,?_⟩
    rintro ⟨i,c,M,hc,hM,hwr',rfl⟩
    rcases get_set_inv hc with ⟨rfl,rfl⟩|⟨hi,hc⟩
    · rw [newL hM] at hkL;exact hkL rfl
    · exact hn ⟨i,c,M,hc,old hi hM,hwr',rfl⟩
  · by_cases hcs:i=id∧v=b.ver+1
    · obtain ⟨rfl,rfl⟩:=hcs;exact .inr (.inr ⟨b,hb,by omega,hbase⟩)
    · rw [Mu.add_other hcs] at hM;exact .inl hM
def Fine (P:Program) (base:Nat) (μ:Mu) (h:Heap) (w:World) (v:AVal) (h':Heap) (V:Value) (w':World):Prop :=
  ∃ μ',μ.le μ'∧VR μ' v V∧HRel P μ' h' w'∧Evo μ h w μ' h' w'∧Fresh base μ h μ'
theorem Fresh.rfl:Fresh base μ h μ:=fun _ _ _ hL=>.inl hL
theorem Fine.same (H:HRel P μ h w) {v:AVal} {V:Value} (hv:VR μ v V):Fine P base μ h w v h V w:=⟨μ,.rfl,hv,H,.rfl,.rfl⟩
end
end Go.AM
namespace Go.AM
section
variable {P:Program} {base:Nat} {μ μ':Mu} {h:Heap} {w w':World}
def spliceV (C:Array Value) (off:Nat):List Value→Array Value
  | []=>C
  | v :: vs=>spliceV (C.setIfInBounds off v) (off+1) vs
theorem spliceV_size:∀ (vs:List Value) (C:Array Value) (off:Nat),(spliceV C off vs).size=C.size
  | [],_,_=>rfl
  | v :: vs,C,off=>by simp [spliceV,spliceV_size vs]
theorem run_storeCells (blk:Nat):∀ (VS:List Value) (w:World) (C:Array Value) (T:TypeId) (fz:Nat × Nat) (off i:Nat),w.heap[blk]?=some (.cells C T fz)→off+i+VS.length≤C.size →
    (∀ j,off+i≤j→j<off+i+VS.length→¬ (fz.1≤j∧j<fz.2))→(∀ v ∈ VS,v.oneCell'=true) →
    ∃ w',(storeCells ⟨blk,off,.none⟩ VS i).run P w=.ok () w'∧w'.heap[blk]?=some (.cells (spliceV C (off+i) VS) T fz)∧(∀ k,k ≠ blk→w'.heap[k]?=w.heap[k]?)∧w'.heap.size=w.heap.size∧Calm w w'
  | [],w,C,T,fz,off,i,hb,_,_,_=>⟨w,by simp [storeCells],hb,fun _ _=>rfl,rfl,.rfl⟩
  | v :: VS,w,C,T,fz,off,i,hb,hl,hf,hv=>by
    have hcell:w.cell? ⟨blk,off+i,.none⟩=some (C[off+i]'(by simp at hl;omega)):=by
      simp only [World.cell?,hb];simp
    have hfz:w.frozen? ⟨blk,off+i,.none⟩=false:=by
      have:=hf (off+i) (Nat.le_refl _) (by simp)
      simp only [World.frozen?,hb]
      simpa using this
    have hset:(w.setCell ⟨blk,off+i,.none⟩ v).heap[blk]?=some (.cells (C.setIfInBounds (off+i) v) T fz):=by
      simp [World.setCell,Array.getElem?_modify,hb]
    have hoth:∀ k,k ≠ blk→(w.setCell ⟨blk,off+i,.none⟩ v).heap[k]?=w.heap[k]?:=by
      intro k hk
      simp only [World.setCell,Array.getElem?_modify]
      rw [if_neg (fun e=>hk e.symm)]
    obtain ⟨w',h1,h2,h3,h4,h5⟩:=run_storeCells blk VS (w.setCell ⟨blk,off+i,.none⟩ v) (C.setIfInBounds (off+i) v) T fz off (i+1) hset (by simp at hl ⊢;omega)
      (fun j h1 h2=>hf j (by omega) (by simp at h2 ⊢;omega)) (fun x hx=>hv x (by simp [hx]))
    refine ⟨w',?_,by simpa [spliceV,Nat.add_assoc] using h2,fun k hk=>(h3 k hk).trans (hoth k hk),by rw [h4];simp [World.setCell],⟨h5.os,h5.tape,h5.output⟩⟩
    simp only [storeCells,Sem.run_bind,addr_add]
    rw [run_store P w _ v _ (hv v (by simp)),hcell]
    simp [hfz,h1]
theorem scalar_one {x:AVal} {X:Value} (hs:x.scalar=true) (h:VR μ x X):X.oneCell'=true:=by
  cases h<;>first|rfl|(simp [AVal.scalar] at hs)
theorem scalars_one:∀ {vs:List AVal} {VS:List Value},vs.all AVal.scalar=true→VRs μ vs VS→∀ v ∈ VS,v.oneCell'=true
  | [],[],_,_=>by simp
  | x :: xs,X :: XS,hs,h=>by
    simp at hs
    intro v hv
    rcases List.mem_cons.1 hv with rfl|hv
    · exact scalar_one hs.1 h.head
    · exact scalars_one (by simpa using hs.2) h.tail v hv
  | [],_ :: _,_,h=>by have:=h.1;simp at this
  | _ :: _,[],_,h=>by have:=h.1;simp at this
theorem splice_get:∀ (vs:List AVal) (VS:List Value) (c:List AVal) (C:Array Value) (off base:Nat),VRs μ vs VS→base+off+vs.length≤C.size→off+vs.length≤c.length →
    (∀ (i:Nat) (x:AVal) (y:Value),c[i]?=some x→C[base+i]?=some y→VR μ x y) →
    ∀ (i:Nat) (x:AVal) (y:Value),(splice c off vs)[i]?=some x→(spliceV C (base+off) VS)[base+i]?=some y→VR μ x y
  | [],[],c,C,off,base,_,_,_,hc=>by simpa [splice,spliceV] using hc
  | v :: vs,V :: VS,c,C,off,base,hv,hl,hl',hc=>by
    have:=splice_get vs VS (c.set off v) (C.setIfInBounds (base+off) V) (off+1) base hv.tail (by simp at hl ⊢;omega) (by simp at hl' ⊢;omega) ?_
    · simpa [splice,spliceV,Nat.add_assoc] using this
    · intro i x y hx hy
      rw [List.getElem?_set] at hx
      rw [Array.getElem?_setIfInBounds] at hy
      by_cases he:off=i
      · subst he
        simp at hx hy
        have h1:off<c.length:=by simp at hl';omega
        have h2:base+off<C.size:=by simp at hl;omega
        simp [h1] at hx;simp [h2] at hy
        subst hx hy;exact hv.head
      · rw [if_neg he] at hx;rw [if_neg (by omega)] at hy
        exact hc i x y hx hy
  | [],_ :: _,_,_,_,_,hv,_,_,_=>by have:=hv.1;simp at this
  | _ :: _,[],_,_,_,_,hv,_,_,_=>by have:=hv.1;simp at this
theorem storeN_inv {r:ARef} {vs:List AVal} {h':Heap} (hs:storeN base h r vs=some h') :
    ∃ c e row,h[r.id]?=some ⟨.cells c e row false,r.ver⟩∧r.off+vs.length≤c.length∧vs.all AVal.scalar=true∧(base≤r.id ∨ vs.all AVal.bare=true)∧h'=h.set r.id ⟨.cells (splice c r.off vs) e row false,r.ver⟩:=by
  unfold storeN at hs
  split at hs
  · rename_i c e row v hb
    split at hs
    · rename_i hc
      obtain ⟨rfl,h1,h2,h3⟩:=hc
      simp at hs
      exact ⟨c,e,row,hb,h1,h2,h3,hs.symm⟩
    · cases hs
  · cases hs
theorem storeN_sound (H:HRel P μ h w) {r:ARef} {vs:List AVal} {VS:List Value} {h':Heap} {L:Loc} (hs:storeN base h r vs=some h') (hL:μ.loc r.id r.ver=some L) (hv:VRs μ vs VS) :
    ∃ w',(storeCells ⟨L.blk,L.base+r.off,.none⟩ VS).run P w=.ok () w'∧HRel P μ h' w'∧Evo μ h w μ h' w':=by
  obtain ⟨c,e,row,hb,h1,h2,h3,rfl⟩:=storeN_inv hs
  obtain ⟨C,T,fz,k1,k2,k3,k4,k5,k6⟩:=H.blk r.id _ L hb hL
  have hlen:=hv.1
  obtain ⟨w',r1,r2,r3,r4,r5⟩:=run_storeCells (P:=P) L.blk VS w C T fz (L.base+r.off) 0 k1 (by omega) (fun j a b=>k6 rfl j (by omega) (.inl (by omega))) (scalars_one h2 hv)
  refine ⟨w',r1,HRel.upd H hb hL rfl rfl r5 r3 r4 ?_⟩
  refine ⟨_,T,fz,r2,by rw [splice_length];exact k2,by rw [spliceV_size];exact k3,?_,k5,fun hro i h1 h2=>k6 hro i h1 (h2.imp id fun e=>by rw [e,spliceV_size])⟩
  rw [Nat.add_zero]
  exact splice_get vs VS c C r.off L.base hv (by omega) h1 k4
theorem storeN_nil {r:ARef} {h':Heap} (hs:storeN base h r []=some h'):h'=h:=by
  obtain ⟨c,e,row,hb,h1,h2,h3,rfl⟩:=storeN_inv hs
  apply List.ext_getElem?
  intro i
  rw [List.getElem?_set]
  split
  · rename_i he;subst he
    rw [if_pos (lt_of_get hb),hb];rfl
  · rfl
theorem push_cells (H:HRel P μ h w) {c:List AVal} {C:Array Value} {e T:TypeId} {row:Bool} (hc:Calm w w') (hw:w'.heap=w.heap.push (.cells C T)) (hl:c.length≤C.size)
    (hv:∀ (i:Nat) (x:AVal) (y:Value),c[i]?=some x→C[i]?=some y→VR μ x y) (L:Loc) (hLe:L=⟨w.heap.size,0,C.size,if row then ((P.info? e).map (·.size)).getD 0 else 0⟩) :
    μ.le (μ.add h.length 0 L)∧HRel P (μ.add h.length 0 L) (h++[⟨.cells c e row false,0⟩]) w'∧Evo μ h w (μ.add h.length 0 L) (h++[⟨.cells c e row false,0⟩]) w'∧Fresh base μ h (μ.add h.length 0 L):=by
  subst hLe
  have hle:μ.le (μ.add h.length 0 ⟨w.heap.size,0,C.size,if row then ((P.info? e).map (·.size)).getD 0 else 0⟩):=Mu.add_le (H.none_of_len (Nat.le_refl _))
  refine HRel.push H rfl hc (fun k hk=>by rw [hw,Array.getElem?_push,if_neg (by omega)]) (Nat.le_refl _) (by rw [hw];simp) ?_
  exact ⟨C,T,(0,0),by rw [hw];simp,hl,by simp,fun i x y hx hy=>(hv i x y hx (by simpa using hy)).mono hle,rfl,fun _ i _ _=>by simp⟩
theorem VR.row {r:ARef} {L:Loc} {n kcap C:Nat} (hL:μ.loc r.id r.ver=some L) (hb:L.base+r.off=0) (hk:0<kcap) (hn:n≤kcap) (hc:kcap≤C) (hl:C=kcap ∨ (C * L.esz≤L.size∧C≤9223372036854775807)) :
    VR μ (.slice (some r) n kcap) (.slice (some ⟨L.blk,0,.none⟩) n C):=by
  have:=VR.slice (μ:=μ) r L n kcap C hL hk hn hc (fun _=>hl)
  rwa [hb] at this
theorem alloc_sound (H:HRel P μ h w) {t:TypeId} {z:List AVal} (hz:zc P t=some z) :
    ∃ V w',(Instr.alloc t true (.tuple #[])).run P w=.ok V w'∧Fine P base μ h w (.ptr (some ⟨h.length,0,0⟩)) (h++[⟨.cells z t false false,0⟩]) V w':=by
  obtain ⟨Z,hZ,hzr⟩:=zc_inv (μ:=μ) hz
  refine ⟨.pointer (some ⟨w.heap.size,0,.none⟩),{ w with heap:=w.heap.push (.cells Z.cells t) },by simp [Instr.alloc,hZ,newVar,newRow],?_⟩
  have hl:z.length=Z.cells.size:=by simpa using hzr.1
  obtain ⟨h1,h2,h3,h4⟩:=push_cells (P:=P) (e:=t) (T:=t) (row:=false) H (c:=z) (C:=Z.cells) (w':={ w with heap:=w.heap.push (.cells Z.cells t) }) ⟨rfl,rfl,rfl⟩ rfl (by omega) (fun i x y hx hy=>hzr.2 i x y hx (by simpa using hy)) _ rfl
  exact ⟨_,h1,by simpa using VR.ptr (μ:=μ.add h.length 0 _) ⟨h.length,0,0⟩ _ Mu.add_same,h2,h3,h4⟩
theorem box_sound (H:HRel P μ h w) {t:TypeId} {x:AVal} {X:Value} (hx:VR μ x X) (hn:x.isN ≠ true) :
    ∃ V w',(Instr.box t X).run P w=.ok V w'∧Fine P base μ h w (.ptr (some ⟨h.length,0,0⟩)) (h++[⟨.cells x.cells t false false,0⟩]) V w':=by
  have hr:=hx.cells (by intro e;subst e;simp [AVal.isN] at hn)
  refine ⟨.pointer (some ⟨w.heap.size,0,.none⟩),{ w with heap:=w.heap.push (.cells X.cells t) },by simp [Instr.box,newVar,newRow],?_⟩
  have hl:x.cells.length=X.cells.size:=by simpa using hr.1
  obtain ⟨h1,h2,h3,h4⟩:=push_cells (P:=P) (e:=t) (T:=t) (row:=false) H (c:=x.cells) (C:=X.cells) (w':={ w with heap:=w.heap.push (.cells X.cells t) }) ⟨rfl,rfl,rfl⟩ rfl (by omega) (fun i a b ha hb=>hr.2 i a b ha (by simpa using hb)) _ rfl
  exact ⟨_,h1,by simpa using VR.ptr (μ:=μ.add h.length 0 _) ⟨h.length,0,0⟩ _ Mu.add_same,h2,h3,h4⟩
theorem repCells_length (z:List AVal):∀ n,(repCells z n).length=n * z.length
  | 0=>by simp [repCells]
  | n+1=>by simp [repCells,repCells_length z n,Nat.succ_mul,Nat.add_comm]
theorem repCells_get (z:List AVal):∀ (n i:Nat),i<n * z.length→(repCells z n)[i]?=z[i % z.length]?
  | 0,i,h=>by simp at h
  | n+1,i,h=>by
    simp only [repCells]
    rcases Nat.lt_or_ge i z.length with hi|hi
    · rw [List.getElem?_append_left hi,Nat.mod_eq_of_lt hi]
    · rw [List.getElem?_append_right hi,repCells_get z n (i-z.length) (by rw [Nat.succ_mul] at h;omega)]
      congr 1
      rw [Nat.mod_eq_sub_mod hi]
theorem rep_VR {z:List AVal} {Z:Array Value} (hz:VRs μ z Z.toList) (n m:Nat) (hm:m=n * Z.size):VRs μ (repCells z n) ((Array.range m).map (Z[· % Z.size]!)).toList:=by
  have hl:z.length=Z.size:=by simpa using hz.1
  subst hm
  refine ⟨by simp [repCells_length,hl],fun i x y hx hy=>?_⟩
  have hi:i<n * z.length:=by
    rcases Nat.lt_or_ge i (n * z.length) with h|h
    · exact h
    · rw [← repCells_length,] at h;simp [List.getElem?_eq_none h] at hx
  rw [repCells_get z n i hi] at hx
  have hpos:0<z.length:=by
    rcases Nat.eq_zero_or_pos z.length with h|h
    · rw [h] at hi;omega
    · exact h
  simp only [Array.toList_map,Array.toList_range,List.getElem?_map] at hy
  rw [List.getElem?_range (by rw [← hl];exact hi)] at hy
  simp at hy
  have hlt:i % Z.size<Z.size:=Nat.mod_lt _ (by omega)
  rw [← hy]
  refine hz.2 (i % z.length) x _ hx ?_
  rw [hl]
  simp [hlt]
theorem rowOf_sound {t e:TypeId} {n z:Nat} {cs:List AVal} {parts:List (Nat × AVal)} {PS:Array (Nat × Value)} (hr:rowOf P t n parts=some (e,z,cs)) (hl:parts.length=PS.size)
    (hp:∀ (i:Nat) (a b:Nat) (x:AVal) (X:Value),parts[i]?=some (a,x)→PS[i]?=some (b,X)→a=b∧VR μ x X) :
    ∃ C,(∀ W:World,(Instr.buildSlice t n PS).run P W=.ok (.slice (some ⟨W.heap.size,0,.none⟩) n n) { W with heap:=W.heap.push (.cells C e) })∧VRs μ cs C.toList∧cs.length=n * z∧0<z∧((P.info? e).map (·.size)).getD 0=z:=by
  unfold rowOf at hr
  split at hr
  · rename_i e' z' zs he
    obtain ⟨i,hd,hi',rfl,hz,hb,h0,hzl⟩:=elS_inv he
    split at hr
    · cases hr
    · rename_i hsz
      split at hr
      · rename_i cs' hf
        simp at hr
        obtain ⟨rfl,rfl,rfl⟩:=hr
        have flen:∀ (parts:List (Nat × AVal)) (c c':List AVal),fillA (fun j=>some (j * i.size,i.size)) c parts=some c'→c'.length=c.length:=by
          intro parts
          induction parts with
          | nil=>intro c c' h;simp [fillA] at h;rw [h]
          | cons p ps ih =>
            intro c c' h
            simp only [fillA] at h
            split at h
            · cases h
            · rw [ih _ _ h,splice_length]
        obtain ⟨Z,hZ,hzr⟩:=zc_inv (μ:=μ) hz
        have hzs:Z.cells.size=i.size:=by have:=hzr.1;simp at this;omega
        have hrep:=rep_VR hzr n (n * i.size) (by rw [hzs])
        obtain ⟨C',hC',hr⟩:=fillA_sound (μ:=μ) parts PS.toList (repCells zs n) cs' _ hrep (by simpa using hl) (fun i a b x X ha hb=>hp i a b x X ha (by simpa using hb)) hf
        refine ⟨C',fun W=>?_,hr,by rw [flen _ _ _ hf,repCells_length,hzl],h0,by simp [hi']⟩
        simp only [Instr.buildSlice,Sem.run_bind,run_underlying' hd,Result.andThen_ok,run_sizeOf' hi']
        rw [if_neg hsz]
        by_cases hn:n * i.size=0
        · have e1:∀ f:Nat→Value,(Array.range 0).map f=#[]:=fun f=>Array.eq_empty_of_size_eq_zero (by simp)
          rw [hn,e1] at hC'
          simp [hn,e1,hC',newRow]
        · simp only [hn,if_false,Sem.run_bind,hZ,Result.andThen_ok,Sem.run_pure,hC']
          simp [newRow]
      · cases hr
  · cases hr
end
end Go.AM
namespace Go.AM
section
variable {P:Program} {base:Nat} {μ μ':Mu} {h:Heap} {w w':World}
theorem wrap_small {n:Int} (h0:0≤n) (h1:n<2 ^ 32):IntKind.i64.wrap n=n:=by
  have e:n % (2 ^ 64:Int)=n:=Int.emod_eq_of_lt h0 (by omega)
  simp only [IntKind.wrap,IntKind.bits,e]
  rw [if_neg]
  simp
  intro _
  omega
theorem makeSliceA_sound (H:HRel P μ h w) {t:TypeId} {l c:AVal} {LV CV:Value} {v:AVal} {h':Heap} (hv:makeSliceA P h t l c=some (v,h')) (hl:VR μ l LV) (hc:VR μ c CV) :
    ∃ V w',(Instr.makeSlice t LV CV).run P w=.ok V w'∧Fine P base μ h w v h' V w':=by
  unfold makeSliceA at hv
  split at hv
  · rename_i e z zs l c he
    obtain ⟨i,hd,hi',rfl,hz,hb,h0,hzl⟩:=elS_inv he
    split at hv
    · rename_i hcond
      obtain ⟨c1,c2,c3⟩:=hcond
      cases hl;cases hc
      obtain ⟨Z,hZ,hzr⟩:=zc_inv (μ:=μ) hz
      have hzs:Z.cells.size=i.size:=by have:=hzr.1;simp at this;omega
      have hrep:=rep_VR hzr c.toNat (c.toNat * i.size) (by rw [hzs])
      let C:Array Value:=(Array.range (c.toNat * i.size)).map (Z.cells[· % Z.cells.size]!)
      have hlen:(repCells zs c.toNat).length=C.size:=by rw [repCells_length,hzl];simp [C]
      have hrun:(Instr.makeSlice t (.int .i64 l) (.int .i64 c)).run P w=.ok (.slice (some ⟨w.heap.size,0,.none⟩) l.toNat c.toNat) { w with heap:=w.heap.push (.cells C e) }:=by
        have hbytes:(i.bytes:Int) * c≤2 ^ 12 * 2 ^ 32:=Int.mul_le_mul (by omega) (by omega) (by omega) (by omega)
        have hnot:¬ (i.bytes:Int) * c > 2 ^ 48:=by omega
        have hbytes':(i.bytes:Int) * l≤2 ^ 12 * 2 ^ 32:=Int.mul_le_mul (by omega) (by omega) (by omega) (by omega)
        simp only [Instr.makeSlice,Sem.run_bind,run_underlying' hd,Result.andThen_ok,asInt,asIntOf,Sem.run_pure,run_typeInfo' hi',wrap_small (show 0≤c by omega) c3,wrap_small c1 (show l<2 ^ 32 by omega)]
        rw [if_neg (by simp;omega)]
        simp only [Sem.run_bind,run_askRoom,Result.andThen_ok,run_sizeOf' hi']
        by_cases hn:c.toNat * i.size=0
        · have e1:∀ f:Nat→Value,(Array.range 0).map f=#[]:=fun f=>Array.eq_empty_of_size_eq_zero (by simp)
          have eC:C=#[]:=by simp only [C];rw [hn];exact e1 _
          rw [eC]
          simp [hn,e1,newRow]
        · simp [hn,hZ,newRow,C]
      split at hv
      · rename_i hc0
        simp at hv
        obtain ⟨rfl,rfl⟩:=hv
        subst hc0
        have hl0:l=0:=by omega
        subst hl0
        have hw:∀ k,k<w.heap.size→({ w with heap:=w.heap.push (.cells C e) }:World).heap[k]?=w.heap[k]?:=fun k hk=>by simp only [Array.getElem?_push];rw [if_neg (by omega)]
        exact ⟨_,_,hrun,μ,.rfl,.emp _,H.world hw (by simp),⟨by simp,rfl,rfl,rfl,fun b hb hn=>⟨hw b hb,hn⟩,fun _ _ hl=>.inl hl⟩,.rfl⟩
      · rename_i hc0
        simp at hv
        obtain ⟨rfl,rfl⟩:=hv
        obtain ⟨p1,p2,p3,p4⟩:=push_cells (P:=P) (e:=e) (T:=e) (row:=true) H (c:=repCells zs c.toNat) (C:=C) (w':={ w with heap:=w.heap.push (.cells C e) }) ⟨rfl,rfl,rfl⟩ rfl (by omega) (fun i x y hx hy=>hrep.2 i x y hx (by rw [Array.getElem?_toList];exact hy)) _ rfl
        exact ⟨_,_,hrun,_,p1,VR.row (r:=⟨h.length,0,0⟩) Mu.add_same rfl (by omega) (by omega) (Nat.le_refl _) (.inl rfl),p2,p3,p4⟩
    · cases hv
  · cases hv
theorem lenA_sound {z:Nat} {x:AVal} {X:Value} {n:Nat} (hn:lenA z x=some n) (hx:VR μ x X):(Builtin.lenOf X).run P w=.ok n w∧∃ a c,X=.slice a n c:=by
  unfold lenA at hn
  split at hn
  · simp at hn;subst hn;cases hx<;>exact ⟨rfl,_,_,rfl⟩
  · simp at hn;subst hn;cases hx;exact ⟨rfl,_,_,rfl⟩
  · split at hn
    · simp at hn;subst hn;cases hx;exact ⟨rfl,_,_,rfl⟩
    · cases hn
  · cases hn
theorem firstN_len {z n:Nat} {x:AVal} {cs:List AVal} (hf:firstN h z n x=some cs):cs.length=n * z:=by
  unfold firstN at hf
  split at hf
  · unfold loadN at hf
    split at hf
    · split at hf
      · simp at hf;subst hf;simp;omega
      · cases hf
    · cases hf
  · split at hf
    · rename_i hn;simp at hf;subst hf hn;simp
    · cases hf
  · split at hf
    · rename_i hn;simp at hf;subst hf hn;simp
    · cases hf
  · split at hf
    · simp at hf;subst hf;simp;omega
    · cases hf
  · cases hf
theorem firstN_sound (H:HRel P μ h w) {z n:Nat} {x:AVal} {X:Value} {cs:List AVal} (hf:firstN h z n x=some cs) (hx:VR μ x X) (hn0:∀ r,x=.slice r 0 0→n=0) :
    ∃ C,(Builtin.firstCells z n X).run P w=.ok C w∧VRs μ cs C.toList:=by
  unfold firstN at hf
  split at hf
  · rename_i r k c
    cases hx with
    | slice0 _ a Ca =>
      have hn:n=0:=hn0 _ rfl
      subst hn
      simp only [Nat.zero_mul] at hf
      unfold loadN at hf
      split at hf
      · split at hf
        · simp at hf;subst hf
          exact ⟨#[],by simp [Builtin.firstCells,loadCells,loadCellsFrom],.nil⟩
        · cases hf
      · cases hf
    | slice _ L _ _ C hL hk hn hc hl =>
      obtain ⟨h1,V,hV,hVl,hcell⟩:=loadN_inv H hf hL
      refine ⟨V.toArray,?_,by simpa using hV⟩
      simp only [Builtin.firstCells]
      rw [← hVl]
      exact run_loadCells_list w _ V hcell
  · split at hf
    · simp at hf;subst hf
      cases hx
      exact ⟨#[],by simp [Builtin.firstCells],.nil⟩
    · cases hf
  · split at hf
    · rename_i hn
      simp at hf;subst hf hn
      cases hx with
      | emp a=>exact ⟨#[],by simp [Builtin.firstCells,loadCells,loadCellsFrom],.nil⟩
    · cases hf
  · rename_i l
    split at hf
    · rename_i hle
      simp at hf;subst hf
      cases hx with
      | vals b _ hb =>
        obtain ⟨⟨C,e,fz,h1,h2⟩,_⟩:=H.anon b l hb
        have hlc:=h2.1
        refine ⟨(C.toList.take (n * z)).toArray,?_,by simpa using h2.take (n * z)⟩
        simp only [Builtin.firstCells]
        have:(C.toList.take (n * z)).length=n * z:=by simp at hlc ⊢;omega
        rw [show n * z=(C.toList.take (n * z)).length from this.symm]
        rw [run_loadCells_list w _ (C.toList.take (n * z))]
        · simp
        · intro j v hv
          rw [addr_add]
          simp only [World.cell?,h1]
          simp only [List.getElem?_take] at hv
          split at hv
          · simpa using hv
          · cases hv
    · cases hf
  · cases hf
theorem zeroCells_eq (Z:Array Value) (n:Nat):Builtin.zeroCells Z n=(Array.range (n * Z.size)).map (Z[· % Z.size]!):=rfl
theorem spliceV_get:∀ (VS:List Value) (C:Array Value) (off k:Nat),off+VS.length≤C.size→(spliceV C off VS)[k]?=if off≤k∧k<off+VS.length then VS[k-off]? else C[k]?
  | [],C,off,k,_=>by simp [spliceV];intro h1 h2;omega
  | v :: VS,C,off,k,hl=>by
    simp only [List.length_cons] at hl
    simp only [spliceV]
    rw [spliceV_get VS _ (off+1) k (by simp;omega),Array.getElem?_setIfInBounds]
    by_cases h1:off=k
    · subst h1
      rw [if_neg (by omega),if_pos rfl,if_pos (by omega),if_pos (by simp)]
      simp
    · rw [if_neg h1]
      by_cases h2:off≤k∧k<off+(VS.length+1)
      · rw [if_pos (by omega),if_pos (by simpa using h2)]
        have:k-off=(k-(off+1))+1:=by omega
        rw [this];simp
      · rw [if_neg (by omega),if_neg (by simpa using h2)]
theorem growBy_le (n:Nat):∀ (r c:Nat),Builtin.growBy n r c≤c * 2 ^ r+200 * 2 ^ r
  | 0,c=>by simp [Builtin.growBy]
  | r+1,c=>by
    have h4:(c * 2+200) * 2 ^ r+200 * 2 ^ r=c * 2 ^ (r+1)+200 * 2 ^ (r+1):=by
      rw [Nat.pow_succ]
      simp only [Nat.add_mul,Nat.mul_assoc,Nat.mul_comm 2]
      omega
    have hp:c≤c * 2 ^ (r+1):=Nat.le_mul_of_pos_right _ (Nat.two_pow_pos _)
    simp only [Builtin.growBy]
    split
    · omega
    · have:=growBy_le n r (c+(c+768) / 4)
      have h2:c+(c+768) / 4≤c * 2+200:=by omega
      have h3:(c+(c+768) / 4) * 2 ^ r≤(c * 2+200) * 2 ^ r:=Nat.mul_le_mul_right _ h2
      omega
theorem nextcap_le {need cap:Nat} (hc:cap<need) (hn:need<2 ^ 31):Builtin.nextslicecap need cap≤2 ^ 36:=by
  unfold Builtin.nextslicecap
  split
  · omega
  · split
    · omega
    · have:=growBy_le need 4 cap
      omega
theorem run_append_in {t t' e e':TypeId} {i:TypeInfo} {base:Option Addr} {sLen sCap n:Nat} {X:Value} {new:Array Value} (hd:P.underlying t=some (.slice e)) (hi:P.info? e=some i) (hd':P.underlying t'=some (.slice e'))
    (hn:(Builtin.lenOf X).run P w=.ok n w) (hle:sLen+n≤sCap) (hf:(Builtin.firstCells i.size n X).run P w=.ok new w)
    (hs:(match base with|some a=>storeCells (a.add (sLen * i.size)) new.toList|.none=>pure ()).run P w=.ok () w') :
    (Builtin.append_ #[t,t'] t #[.slice base sLen sCap,X]).run P w=.ok (.slice base (sLen+n) sCap) w':=by
  have e0:(#[t,t']:Array TypeId)[0]?=some t:=rfl
  have e1:(#[t,t']:Array TypeId)[1]?=some t':=rfl
  have e2:(#[Value.slice base sLen sCap,X]:Array Value)[0]?=some (.slice base sLen sCap):=rfl
  have e3:(#[Value.slice base sLen sCap,X]:Array Value)[1]?=some X:=rfl
  simp only [Builtin.append_,e0,e1,e2,e3,Sem.run_bind,run_underlying' hd,Result.andThen_ok,run_sizeOf' hi,run_underlying' hd',Sem.run_pure]
  simp only [Bool.false_eq_true,if_false,hn,Result.andThen_ok,hle,if_true,Sem.run_bind,Bool.not_false,hf]
  cases base with
  | none=>simp at hs ⊢;exact hs
  | some a=>simp only [Sem.run_bind] at hs ⊢;rw [hs];rfl
theorem run_append_re {t t' e e':TypeId} {i:TypeInfo} {base:Option Addr} {sLen sCap n:Nat} {X Z:Value} {old new:Array Value} (hd:P.underlying t=some (.slice e)) (hi:P.info? e=some i) (hd':P.underlying t'=some (.slice e'))
    (hb:i.bytes≤2 ^ 12) (hn:∀ W:World,(Builtin.lenOf X).run P W=.ok n W) (hlt:¬ sLen+n≤sCap) (hnd:sLen+n<2 ^ 31) (hz:∀ W:World,(zeroValue e).run P W=.ok Z W)
    (hof:(Builtin.firstCells i.size sLen (.slice base sLen sCap)).run P w.drew=.ok old w.drew) (hf:(Builtin.firstCells i.size n X).run P w.drew=.ok new w.drew) :
    ∃ cap,sLen+n≤cap∧cap≤9223372036854775807∧(Builtin.append_ #[t,t'] t #[.slice base sLen sCap,X]).run P w =
      .ok (.slice (some ⟨w.heap.size,0,.none⟩) (sLen+n) cap) { w.drew with heap:=w.heap.push (.cells (old++new++Builtin.zeroCells Z.cells (cap-(sLen+n))) e) }:=by
  have e0:(#[t,t']:Array TypeId)[0]?=some t:=rfl
  have e1:(#[t,t']:Array TypeId)[1]?=some t':=rfl
  have e2:(#[Value.slice base sLen sCap,X]:Array Value)[0]?=some (.slice base sLen sCap):=rfl
  have e3:(#[Value.slice base sLen sCap,X]:Array Value)[1]?=some X:=rfl
  have hcap:=nextcap_le (show sCap<sLen+n by omega) hnd
  have hprod:Builtin.nextslicecap (sLen+n) sCap * i.bytes≤2 ^ 36 * 2 ^ 12:=Nat.mul_le_mul hcap hb
  refine ⟨(Question.appendCap (sLen+n) sCap e).cut (w.tape w.drawn (.appendCap (sLen+n) sCap e)),by simp [Question.cut],by
    have hlt:=Nat.mod_lt (w.tape w.drawn (.appendCap (sLen+n) sCap e)) (show 0<2 ^ 63-(sLen+n) by omega)
    simp only [Question.cut]
    omega,?_⟩
  simp only [Builtin.append_,e0,e1,e2,e3,Sem.run_bind,run_underlying' hd,Result.andThen_ok,run_sizeOf' hi,run_underlying' hd',Sem.run_pure]
  simp only [Bool.false_eq_true,if_false,hn,Result.andThen_ok,hlt,Sem.run_bind,Bool.not_false,run_typeInfo' hi,if_true,false_or]
  rw [if_neg (by
                 have hm:IntKind.i64.max=9223372036854775807:=by decide
                 rw [hm];intro hh;have:=hh.1;omega)]
  simp only [Sem.run_bind,run_typeInfo' hi,Result.andThen_ok]
  rw [if_neg (by omega)]
  simp only [Sem.run_bind,run_choose,Question.forced,Bool.false_eq_true,if_false,Result.andThen_ok,run_askRoom,World.drew_eq,run_typeInfo' hi]
  simp only [hof,hf,Result.andThen_ok,hz,newRow,Sem.run_bind,run_newObj,Sem.run_pure]
  rfl
theorem appendA_sound (H:HRel P μ h w) {t t':TypeId} {s x:AVal} {S X:Value} {v:AVal} {h':Heap} (hv:appendA P base h t s x=some (v,h')) (ht':(elS P t').isNone ≠ true) (hs:VR μ s S) (hx:VR μ x X) :
    ∃ V w',(Builtin.append_ #[t,t'] t #[S,X]).run P w=.ok V w'∧Fine P base μ h w v h' V w':=by
  obtain ⟨e',hd'⟩:∃ e',P.underlying t'=some (.slice e'):=by
    cases he:elS P t' with
    | none=>simp [he] at ht'
    | some q=>obtain ⟨e',z,zs⟩:=q;obtain ⟨i,hd,_⟩:=elS_inv he;exact ⟨e',hd⟩
  unfold appendA at hv
  split at hv
  · cases hv
  · rename_i e z zs he
    obtain ⟨i,hd,hi,rfl,hz,hb,h0,hzl⟩:=elS_inv he
    obtain ⟨Z,hZ,hzr⟩:=zc_inv (μ:=μ) hz
    split at hv
    · cases hv
    · rename_i n hn
      split at hv
      · cases hv
      · rename_i new hnew
        have hnl:=firstN_len hnew
        have hx0:∀ r,x=.slice r 0 0→n=0:=by intro r e;subst e;simp [lenA] at hn;exact hn.symm
        have hlen:=fun W:World=>(lenA_sound (P:=P) (w:=W) hn hx).1
        obtain ⟨NEW,hNEW,hnr⟩:=firstN_sound H hnew hx hx0
        have Hd:HRel P μ h w.drew:=H.world (fun _ _=>rfl) (Nat.le_refl _)
        obtain ⟨NEW',hNEW',hnr'⟩:=firstN_sound Hd hnew hx hx0
        have hnsz:NEW'.size=n * i.size:=by have:=hnr'.1;simp at this;omega
        -- an append that makes a row of its own
        have fresh:∀ (S:Value) (bs:Option Addr),S=.slice bs 0 0→0<n→n<2 ^ 31 →
            ∃ V w',(Builtin.append_ #[t,t'] t #[S,X]).run P w=.ok V w'∧Fine P base μ h w (.slice (some ⟨h.length,0,0⟩) n n) (h++[⟨.cells new e true false,0⟩]) V w':=by
          intro S bs hS hn1 hn2
          subst hS
          have hof:(Builtin.firstCells i.size 0 (.slice bs 0 0)).run P w.drew=.ok #[] w.drew:=by
            cases bs<;>simp [Builtin.firstCells,loadCells,loadCellsFrom]
          obtain ⟨cap,hc1,hcB,hc2⟩:=run_append_re (w:=w) (Z:=Z) (base:=bs) (sLen:=0) (sCap:=0) hd hi hd' hb hlen (by omega) (by omega) hZ hof hNEW'
          refine ⟨_,_,hc2,?_⟩
          let C:Array Value:=#[]++NEW'++Builtin.zeroCells Z.cells (cap-(0+n))
          have hzs:Z.cells.size=i.size:=by have:=hzr.1;simp at this;omega
          have hCs:C.size=cap * i.size:=by
            simp only [C,Array.size_append,zeroCells_eq,Array.size_map,Array.size_range,hnsz,hzs]
            simp only [List.size_toArray,List.length_nil,Nat.zero_add]
            rw [← Nat.add_mul];congr 1;omega
          obtain ⟨p1,p2,p3,p4⟩:=push_cells (P:=P) (e:=e) (T:=e) (row:=true) H (c:=new) (C:=C) (w':={ w.drew with heap:=w.heap.push (.cells C e) }) ⟨rfl,rfl,rfl⟩ rfl
            (by rw [hCs,hnl];exact Nat.mul_le_mul_right _ (by omega)) (fun j a b ha hb'=>by
              have hj:j<NEW'.size:=by
                rcases Nat.lt_or_ge j new.length with h|h
                · omega
                · simp [List.getElem?_eq_none h] at ha
              refine hnr'.2 j a b ha ?_
              rw [Array.getElem?_toList]
              simp only [C] at hb'
              rw [Array.getElem?_append_left (by simp;omega)] at hb'
              simpa using hb') _ rfl
          refine ⟨_,p1,?_,p2,p3,p4⟩
          rw [Nat.zero_add]
          refine VR.row (r:=⟨h.length,0,0⟩) Mu.add_same rfl hn1 (Nat.le_refl _) (by omega) (.inr ?_)
          simp only [if_true,hi,Option.map_some,Option.getD_some]
          exact ⟨by rw [hCs];exact Nat.le_refl _,hcB⟩
        split at hv
        · rename_i hsc
          split at hv
          · -- nil
            split at hv
            · rename_i hn0
              simp at hv;obtain ⟨rfl,rfl⟩:=hv
              subst hn0
              cases hs
              exact ⟨_,w,run_append_in (w':=w) hd hi hd' (hlen w) (by omega) hNEW (by simp),Fine.same H .sliceN⟩
            · split at hv
              · rename_i hn1 hn2
                simp at hv;obtain ⟨rfl,rfl⟩:=hv
                cases hs
                exact fresh _ .none rfl (by omega) hn2
              · cases hv
          · -- an empty literal
            split at hv
            · rename_i hn0
              simp at hv;obtain ⟨rfl,rfl⟩:=hv
              subst hn0
              cases hs with
              | emp a =>
                have:NEW.toList=[]:=List.eq_nil_of_length_eq_zero (by have:=hnr.1;omega)
                exact ⟨_,w,run_append_in (w':=w) hd hi hd' (hlen w) (by omega) hNEW (by rw [this];simp [storeCells]),Fine.same H (.emp a)⟩
            · split at hv
              · rename_i hn1 hn2
                simp at hv;obtain ⟨rfl,rfl⟩:=hv
                cases hs with
                | emp a=>exact fresh _ (some a) rfl (by omega) hn2
              · cases hv
          · rename_i r len kcap
            split at hv
            · -- within the capacity
              rename_i hle
              split at hv
              · rename_i h'' hst
                simp at hv;obtain ⟨rfl,rfl⟩:=hv
                cases hs with
                | slice0 _ a Ca =>
                  have hn0:n=0:=by omega
                  subst hn0
                  have hnew0:new=[]:=List.eq_nil_of_length_eq_zero (by rw [hnl];simp)
                  subst hnew0
                  have:=storeN_nil hst
                  subst this
                  have hN0:NEW.toList=[]:=List.eq_nil_of_length_eq_zero hnr.1.symm
                  exact ⟨_,w,run_append_in (w':=w) hd hi hd' (hlen w) (by omega) hNEW (by rw [hN0];simp [storeCells]),Fine.same H (.slice0 r a Ca)⟩
                | slice _ L _ _ C hL hk hn' hc hl =>
                  obtain ⟨w',s1,s2,s3⟩:=storeN_sound H (r:=r.add (len * i.size)) hst hL hnr
                  refine ⟨_,w',run_append_in hd hi hd' (hlen w) (by omega) hNEW ?_,μ,.rfl,.slice r L _ _ C hL hk (by omega) hc hl,s2,s3,.rfl⟩
                  simp only [addr_add]
                  rw [Nat.add_assoc];exact s1
              · cases hv
            · -- it grows
              rename_i hgt
              split at hv
              · rename_i c e2 ver hbk
                split at hv
                · rename_i hcond
                  obtain ⟨rfl,hoff,hkc,rfl,hbound,hk0,hbase⟩:=hcond
                  simp at hv;obtain ⟨rfl,rfl⟩:=hv
                  have hbr0:base≤r.id ∨ ∃ M,μ.loc r.id r.ver=some M:=by
                    rcases hbase with hb1|_
                    · exact .inl hb1
                    · cases hs with
                      | slice0=>omega
                      | slice _ L _ _ C hL _ _ _ _=>exact .inr ⟨L,hL⟩
                  have hro:r=⟨r.id,r.ver,0⟩:=by cases r;simp at hoff;subst hoff;rfl
                  -- in another place
                  have moved:∀ (bs:Option Addr) (C:Nat) (OLD:Array Value),S=.slice bs len C→¬ len+n≤C→(Builtin.firstCells i.size len S).run P w.drew=.ok OLD w.drew→VRs μ (c.take (len * i.size)) OLD.toList→len≤kcap →
                      ∃ V w',(Builtin.append_ #[t,t'] t #[S,X]).run P w=.ok V w'∧Fine P base μ h w (.slice (some ⟨r.id,r.ver+1,0⟩) (len+n) (len+n)) (h.set r.id ⟨.cells (c.take (len * i.size)++new) e2 true false,r.ver+1⟩) V w':=by
                    intro bs C OLD hS hnC hof hov hlk
                    subst hS
                    obtain ⟨cap,hc1,hcB,hc2⟩:=run_append_re (w:=w) (Z:=Z) (base:=bs) (sLen:=len) (sCap:=C) hd hi hd' hb hlen hnC hbound hZ hof hNEW'
                    refine ⟨_,_,hc2,?_⟩
                    let C':Array Value:=OLD++NEW'++Builtin.zeroCells Z.cells (cap-(len+n))
                    have hzs:Z.cells.size=i.size:=by have:=hzr.1;simp at this;omega
                    have hlk':len * i.size≤c.length:=by rw [← hkc];exact Nat.mul_le_mul_right _ hlk
                    have hOs:OLD.size=len * i.size:=by have:=hov.1;simp at this;omega
                    have hC's:C'.size=cap * i.size:=by
                      simp only [C',Array.size_append,zeroCells_eq,Array.size_map,Array.size_range,hnsz,hzs,hOs]
                      rw [← Nat.add_mul,← Nat.add_mul];congr 1;omega
                    have hall:=hov.append hnr'
                    let L':Loc:=⟨w.heap.size,0,C'.size,i.size⟩
                    have hgr:=HRel.grow (L:=L') (w':={ w.drew with heap:=w.heap.push (.cells C' e2) }) H hbk (b':=⟨.cells (c.take (len * i.size)++new) e2 true false,r.ver+1⟩) rfl ⟨rfl,rfl,rfl⟩ (by simp) (by simp [L'])
                      (.inr ⟨Nat.le_refl _,fun k hk=>by simp only [Array.getElem?_push];rw [if_neg (by omega)]⟩) ?_ hbr0
                    · obtain ⟨g1,g2,g3,g4⟩:=hgr
                      refine ⟨_,g1,?_,g2,g3,g4⟩
                      refine VR.row (r:=⟨r.id,r.ver+1,0⟩) Mu.add_same rfl (by omega) (Nat.le_refl _) hc1 (.inr ?_)
                      exact ⟨by simp only [L'];rw [hC's];exact Nat.le_refl _,hcB⟩
                    · refine ⟨C',e2,(0,0),by simp [L'],?_,by simp [L'],?_,by simp [L',hi],fun _ j _ _=>by simp⟩
                      · simp only [L',hC's,List.length_append,List.length_take,hnl,Nat.min_eq_left hlk']
                        rw [← Nat.add_mul];exact Nat.mul_le_mul_right _ hc1
                      · intro j a b ha hb'
                        have hj:j<(c.take (len * i.size)++new).length:=by
                          rcases Nat.lt_or_ge j (c.take (len * i.size)++new).length with h|h
                          · exact h
                          · simp only [List.getElem?_eq_none h] at ha;cases ha
                        refine (hall.2 j a b ha ?_).mono (Mu.add_le (H.none_of_ver hbk (by simp)))
                        simp only [L',C',Nat.zero_add] at hb'
                        have hlen':=hall.1
                        rw [Array.getElem?_append_left (by simp at hlen' hj ⊢;omega)] at hb'
                        rw [← Array.toList_append,Array.getElem?_toList];exact hb'
                  cases hs with
                  | slice0=>omega
                  | slice _ L _ _ C hL hk hn' hc hl =>
                    obtain ⟨CC,T,fz,k1,k2,k3,k4,k5,k6⟩:=H.blk r.id _ L hbk hL
                    have hlk':len * i.size≤c.length:=by rw [← hkc];exact Nat.mul_le_mul_right _ hn'
                    by_cases hin:len+n≤C
                    · -- in its place
                      have hCk:C ≠ kcap:=by omega
                      have hCl2:C * L.esz≤L.size∧C≤9223372036854775807:=by
                        rcases hl hoff with h|h
                        · exact absurd h hCk
                        · exact h
                      obtain ⟨hCl,hCB⟩:=hCl2
                      have hesz:L.esz=i.size:=by rw [k5];simp [hi]
                      rw [hesz] at hCl
                      have hroom:(len+n) * i.size≤L.size:=Nat.le_trans (Nat.mul_le_mul_right _ hin) hCl
                      rw [Nat.add_mul] at hroom
                      have hNs:NEW.toList.length=n * i.size:=by have:=hnr.1;omega
                      obtain ⟨w',r1,r2,r3,r4,r5⟩:=run_storeCells (P:=P) L.blk NEW.toList w CC T fz (L.base+len * i.size) 0 k1 (by omega) (fun j a b=>k6 rfl j (by omega) (.inl (by omega))) (scalars_one hsc hnr)
                      refine ⟨.slice (some ⟨L.blk,L.base+r.off,.none⟩) (len+n) C,w',run_append_in hd hi hd' (hlen w) hin hNEW (by simp only [addr_add,hoff,Nat.add_zero];exact r1),?_⟩
                      have hgr:=HRel.grow (L:=L) (w':=w') H hbk (b':=⟨.cells (c.take (len * i.size)++new) e2 true false,r.ver+1⟩) rfl r5 (by omega) (by obtain ⟨_,_,_,h3⟩:=H.dom r.id _ L hL;omega)
                        (.inl ⟨hL,rfl,fun k _ hk=>r3 k hk⟩) ?_ hbr0
                      · obtain ⟨g1,g2,g3,g4⟩:=hgr
                        refine ⟨_,g1,?_,g2,g3,g4⟩
                        have:=VR.slice (μ:=μ.add r.id (r.ver+1) L) ⟨r.id,r.ver+1,0⟩ L (len+n) (len+n) C Mu.add_same (by omega) (Nat.le_refl _) hin (fun _=>.inr ⟨by rw [hesz];exact hCl,hCB⟩)
                        rw [hoff];exact this
                      · refine ⟨_,T,fz,r2,?_,by rw [spliceV_size];exact k3,?_,k5,fun hro i h1 h2=>k6 hro i h1 (h2.imp id fun e=>by rw [e,spliceV_size])⟩
                        · simp only [List.length_append,List.length_take,hnl,Nat.min_eq_left hlk'];exact hroom
                        · intro j a b ha hb'
                          have hle':=Mu.add_le (L:=L) (H.none_of_ver hbk (v:=r.ver+1) (by simp))
                          rw [Nat.add_zero] at hb'
                          rcases Nat.lt_or_ge j (len * i.size) with hj|hj
                          · rw [List.getElem?_append_left (by simp;omega),List.getElem?_take,if_pos hj] at ha
                            rw [spliceV_get _ _ _ _ (by omega),if_neg (by omega)] at hb'
                            exact (k4 j a b ha hb').mono hle'
                          · rw [List.getElem?_append_right (by simp;omega)] at ha
                            rw [spliceV_get _ _ _ _ (by omega)] at hb'
                            have hjn:j-len * i.size<new.length:=by
                              simp only [List.length_take,Nat.min_eq_left hlk'] at ha
                              rcases Nat.lt_or_ge (j-len * i.size) new.length with h|h
                              · exact h
                              · simp [List.getElem?_eq_none h] at ha
                            rw [if_pos (by omega)] at hb'
                            simp only [List.length_take,Nat.min_eq_left hlk'] at ha
                            refine (hnr.2 _ a b ha ?_).mono hle'
                            rw [← hb'];congr 1;omega
                    · obtain ⟨OLD,hOLD,hor⟩:=firstN_sound Hd (z:=i.size) (n:=len) (x:=.slice (some r) len kcap) (cs:=c.take (len * i.size)) (by
                        simp only [firstN,loadN,cellsAt,hbk,if_true,hoff,Nat.zero_add,hlk',List.drop_zero]) (.slice r L _ _ C hL hk hn' hc hl) (by intro q hq;cases hq;rfl)
                      exact moved _ C OLD rfl hin hOLD hor hn'
                · cases hv
              · cases hv
          · cases hv
        · cases hv
end
end Go.AM
