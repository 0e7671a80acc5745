/-
  The abstract machine without fuel.
-/
import Derived.Test.YtcemgempgbjbeaaGreatU6
set_option linter.unusedSimpArgs false
set_option linter.unusedVariables false
namespace Go.AM
abbrev Ev:=Nat→Code→St→Option (AExit × St)
section
variable {P:Program} {raw:FuncId→Bool}
def CallLe (c c':Caller):Prop:=∀ b v args h r,c b v args h=some r→c' b v args h=some r
def EvLe (e e':Ev):Prop:=∀ b c s r,e b c s=some r→e' b c s=some r
theorem CallLe.rfl {c:Caller}:CallLe c c:=fun _ _ _ _ _ h=>h
theorem EvLe.trans {a b c:Ev} (h:EvLe a b) (k:EvLe b c):EvLe a c:=fun _ _ _ _ x=>k _ _ _ _ (h _ _ _ _ x)
theorem callWith_mono {e e':Ev} (h:EvLe e e'):CallLe (callWith P raw e) (callWith P raw e'):=by
  intro b v args hp r hv
  unfold callWith at hv ⊢
  split at hv
  · split at hv
    · split at hv
      · split at hv
        · cases hv
        · rename_i e1 s' hne hs'
          rw [h _ _ _ _ hs']
          cases e1 with
          | exit id=>exact absurd rfl (hne id)
          | normal=>exact hv
          | ret=>exact hv
        · cases hv
      · exact hv
    · cases hv
  · split at hv
    · split at hv
      · rename_i hc
        rw [if_pos hc]
        split at hv
        · rename_i s1 h1
          rw [h _ _ _ _ h1]
          simp only
          split at hv
          · rename_i L1 hL1
            split at hv
            · rename_i hr
              rw [if_pos hr]
              split at hv
              · rename_i e2 s2 h2
                rw [h _ _ _ _ h2]
                exact hv
              · cases hv
            · cases hv
          · cases hv
        · cases hv
      · cases hv
    · cases hv
  · cases hv
theorem effA_mono {c c':Caller} (hc:CallLe c c') {base:Nat} {lit:Bool} {fr:AFrame} {h:Heap} {o:Op} {r:AVal × Heap} (hv:effA P c base lit fr h o=some r):effA P c' base lit fr h o=some r:=by
  unfold effA at hv ⊢
  split at hv
  · split at hv
    · exact hv
    · exact hc _ _ _ _ _ hv
    · cases hv
  · exact hv
theorem stepOp_mono {c c':Caller} (hc:CallLe c c') {base:Nat} {ops:Array Oper} {chk:Bool} {o:Oper} {s s':St} (hv:stepOp P c base ops chk o s=some s'):stepOp P c' base ops chk o s=some s':=by
  unfold stepOp at hv ⊢
  split at hv
  · split at hv
    · rename_i hp;rw [if_pos hp];exact hv
    · rename_i hp
      rw [if_neg hp]
      split at hv
      · rename_i v h' he
        rw [effA_mono hc he]
        exact hv
      · cases hv
  · exact hv
  · cases hv
theorem evOps_mono {c c':Caller} (hc:CallLe c c') {base:Nat} {ops:Array Oper} {chk:Bool}:∀ {l:List Oper} {s s':St},evOps P c base ops chk l s=some s' →
    evOps P c' base ops chk l s=some s'∧trOps P c' base ops chk l s=trOps P c base ops chk l s
  | [],s,s',hv=>⟨hv,rfl⟩
  | o :: l,s,s',hv=>by
    simp only [evOps] at hv
    split at hv
    · rename_i s1 h1
      have h2:=stepOp_mono hc h1
      obtain ⟨h3,h4⟩:=evOps_mono hc hv
      simp only [evOps,trOps,h1,h2]
      exact ⟨h3,by rw [h4]⟩
    · cases hv
theorem DrawSafe.mono {c c':Caller} (hc:CallLe c c') {base:Nat} {ops:Array Oper} {s s1:St} (h1:evOps P c base ops false ops.toList s=some s1) (h:DrawSafe P c base ops s):DrawSafe P c' base ops s:=by
  rcases h with ⟨hdn,hl,s2,h2⟩|⟨hd,hl⟩
  · obtain ⟨h3,h4⟩:=evOps_mono hc h2
    refine .inl ⟨hdn,?_,s2,h3⟩
    simp only [LooseOk,Bool.not_false,h4] at hl ⊢
    exact hl
  · refine .inr ⟨hd,?_⟩
    have h4:=(evOps_mono hc h1).2
    simp only [LooseOk,Bool.not_true,h4] at hl ⊢
    exact hl
open Classical in
noncomputable def evF (P:Program) (raw:FuncId→Bool) (ev':Ev):Ev:=fun base c s =>
    match c with
    | .skip=>some (.normal,s)
    | .label _=>some (.normal,s)
    | .region _ ops draw=>if draw=true∧¬ DrawSafe P (callWith P raw ev') base ops s then .none else
      match evOps P (callWith P raw ev') base ops false ops.toList s with
      | some s'=>some (.normal,s')
      | .none=>.none
    | .seq a b=>match ev' base a s with
      | some (.normal,s')=>ev' base b s'
      | r=>r
    | .cond g a b=>match ev s.fr g with
      | .bool t=>ev' base (if t then a else b) s
      | _=>.none
    | .block id b=>match ev' base b s with
      | some (.exit id',s')=>if id'=id then some (.normal,s') else some (.exit id',s')
      | r=>r
    | .loop b=>match ev' base b s with
      | some (.normal,s')=>ev' base (.loop b) s'
      | r=>r
    | .exit id=>some (.exit id,s)
    | .scope b=>ev' base b s
    | .ret=>some (.ret,s)
    | .rangeFunc g params assign body =>
      if (ev s.fr g).isFn=true then
        match callWith P raw ev' base (ev s.fr g) [.yld s.h.length] (s.h++[⟨.loop { state:=.ready,pending:=.none,fr:=s.fr,params:=params.toList,assign,body },0⟩]) with
        | some (_,h2)=>match h2[s.h.length]? with
          | some ⟨.loop L,0⟩ =>
            if L.state=.busy then .none else
            match L.pending with
            | .none=>some (.normal,⟨s.fr,h2.set s.h.length ⟨.loop { L with state:=.exhausted },0⟩⟩)
            | some (.exit id)=>some (.exit id,⟨s.fr,h2.set s.h.length ⟨.loop { L with state:=.exhausted },0⟩⟩)
            | some .ret=>some (.ret,⟨s.fr,h2.set s.h.length ⟨.loop { L with state:=.exhausted },0⟩⟩)
            | _=>.none
          | _=>.none
        | .none=>.none
      else .none
    | .goto _=>.none
    | .refuse _=>.none
theorem evC_succ (n:Nat):evC P raw (n+1)=evF P raw (evC P raw n):=by
  funext base c s
  cases c<;>rfl
theorem evF_mono {e e':Ev} (h:EvLe e e'):EvLe (evF P raw e) (evF P raw e'):=by
  have hc:CallLe (callWith P raw e) (callWith P raw e'):=callWith_mono h
  intro base c s r hv
  cases c with
  | region id ops draw =>
    simp only [evF] at hv ⊢
    split at hv
    · cases hv
    · rename_i hl
      split at hv
      · rename_i s1 h1
        rw [(evOps_mono hc h1).1,if_neg]
        · exact hv
        · rintro ⟨hd,hn⟩
          exact hl ⟨hd,fun hl'=>hn (hl'.mono hc h1)⟩
      · cases hv
  | seq a b =>
    simp only [evF] at hv ⊢
    split at hv
    · rename_i s1 h1
      rw [h _ _ _ _ h1];exact h _ _ _ _ hv
    · rename_i hne
      rw [h _ _ _ _ hv]
      obtain ⟨e1,s1⟩:=r
      cases e1 with
      | normal=>exact absurd hv (hne s1)
      | exit id=>rfl
      | ret=>rfl
  | cond g a b =>
    simp only [evF] at hv ⊢
    split at hv
    · exact h _ _ _ _ hv
    · cases hv
  | block id b =>
    simp only [evF] at hv ⊢
    split at hv
    · rename_i id' s1 h1
      rw [h _ _ _ _ h1];exact hv
    · rename_i hne
      rw [h _ _ _ _ hv]
      obtain ⟨e1,s1⟩:=r
      cases e1 with
      | normal=>rfl
      | exit id=>exact absurd hv (hne id s1)
      | ret=>rfl
  | loop b =>
    simp only [evF] at hv ⊢
    split at hv
    · rename_i s1 h1
      rw [h _ _ _ _ h1];exact h _ _ _ _ hv
    · rename_i hne
      rw [h _ _ _ _ hv]
      obtain ⟨e1,s1⟩:=r
      cases e1 with
      | normal=>exact absurd hv (hne s1)
      | exit id=>rfl
      | ret=>rfl
  | scope b=>exact h _ _ _ _ hv
  | rangeFunc g ps assign body =>
    simp only [evF] at hv ⊢
    split at hv
    · rename_i hf
      rw [if_pos hf]
      split at hv
      · rename_i r2 h2 hcall
        rw [hc _ _ _ _ _ hcall]
        exact hv
      · cases hv
    · cases hv
  | _=>exact hv
theorem evC_le:∀ {n m:Nat},n≤m→EvLe (evC P raw n) (evC P raw m):=by
  have one:∀ n,EvLe (evC P raw n) (evC P raw (n+1)):=by
    intro n
    induction n with
    | zero=>intro b c s r h;simp [evC] at h
    | succ n ih=>rw [evC_succ,evC_succ (n+1)];exact evF_mono ih
  intro n m hnm
  induction hnm with
  | refl=>exact fun _ _ _ _ h=>h
  | step _ ih=>exact ih.trans (one _)
noncomputable def evL (P:Program) (raw:FuncId→Bool):Ev:=fun base c s =>
  open Classical in if h:∃ r n,evC P raw n base c s=some r then some (Classical.choose h) else .none
theorem evL_iff {base:Nat} {c:Code} {s:St} {r:AExit × St}:evL P raw base c s=some r ↔ ∃ n,evC P raw n base c s=some r:=by
  unfold evL
  constructor
  · intro h
    split at h
    · rename_i hx
      obtain ⟨n,hn⟩:=Classical.choose_spec hx
      cases h;exact ⟨n,hn⟩
    · cases h
  · rintro ⟨n,hn⟩
    have hx:∃ r n,evC P raw n base c s=some r:=⟨r,n,hn⟩
    rw [dif_pos hx]
    obtain ⟨m,hm⟩:=Classical.choose_spec hx
    have h1:=evC_le (Nat.le_max_left n m) _ _ _ _ hn
    have h2:=evC_le (Nat.le_max_right n m) _ _ _ _ hm
    rw [h1] at h2;exact congrArg some (Option.some.inj h2).symm
theorem evC_evL (n:Nat):EvLe (evC P raw n) (evL P raw):=fun _ _ _ _ h=>evL_iff.2 ⟨n,h⟩
noncomputable abbrev callL (P:Program) (raw:FuncId→Bool):Caller:=callWith P raw (evL P raw)
theorem callL_fuel {base:Nat} {v:AVal} {args:List AVal} {h:Heap} {r:AVal × Heap} (hv:callL P raw base v args h=some r):∃ n,callWith P raw (evC P raw n) base v args h=some r:=by
  unfold callL callWith at hv
  split at hv
  · rename_i f first captured
    split at hv
    · rename_i fn hfn
      split at hv
      · rename_i c hc
        split at hv
        · cases hv
        · rename_i e s' hne hs'
          obtain ⟨n,hn⟩:=evL_iff.1 hs'
          refine ⟨n,?_⟩
          unfold callWith
          simp only [hfn,hc,hn]
          cases e with
          | exit id=>exact absurd rfl (hne id)
          | normal=>exact hv
          | ret=>exact hv
        · cases hv
      · rename_i hbn
        refine ⟨0,?_⟩
        unfold callWith
        simp only [hfn,hbn]
        exact hv
    · cases hv
  · rename_i l
    split at hv
    · rename_i L hL
      split at hv
      · rename_i hcond
        split at hv
        · rename_i s1 h1
          split at hv
          · rename_i L1 hL1
            split at hv
            · rename_i hr
              split at hv
              · rename_i e s2 h2
                obtain ⟨n,hn⟩:=evL_iff.1 h1
                obtain ⟨m,hm⟩:=evL_iff.1 h2
                refine ⟨max n m,?_⟩
                unfold callWith
                simp only [hL,hcond,and_self,if_true,evC_le (Nat.le_max_left n m) _ _ _ _ hn,hL1,hr,evC_le (Nat.le_max_right n m) _ _ _ _ hm]
                exact hv
              · cases hv
            · cases hv
          · cases hv
        · cases hv
      · cases hv
    · cases hv
  · cases hv
theorem stepOp_fuel {base:Nat} {ops:Array Oper} {chk:Bool} {o:Oper} {s s':St} (hv:stepOp P (callL P raw) base ops chk o s=some s'):∃ n,stepOp P (callWith P raw (evC P raw n)) base ops chk o s=some s':=by
  unfold stepOp at hv
  split at hv
  · rename_i hg
    split at hv
    · rename_i hp
      exact ⟨0,by unfold stepOp;rw [hg];simp only;rw [if_pos hp];exact hv⟩
    · rename_i hp
      split at hv
      · rename_i v h' he
        have:∃ n,effA P (callWith P raw (evC P raw n)) base (litIn ops.toList o.dst) s.fr s.h o.op=some (v,h'):=by
          unfold effA at he ⊢
          split at he
          · split at he
            · exact ⟨0,he⟩
            · exact callL_fuel he
            · cases he
          · exact ⟨0,he⟩
        obtain ⟨n,hn⟩:=this
        exact ⟨n,by unfold stepOp;rw [hg];simp only;rw [if_neg hp,hn];exact hv⟩
      · cases hv
  · rename_i hg;exact ⟨0,by unfold stepOp;rw [hg];exact hv⟩
  · cases hv
theorem evOps_fuel {base:Nat} {ops:Array Oper} {chk:Bool}:∀ {l:List Oper} {s s':St},evOps P (callL P raw) base ops chk l s=some s'→∃ n,evOps P (callWith P raw (evC P raw n)) base ops chk l s=some s'
  | [],s,s',hv=>⟨0,hv⟩
  | o :: l,s,s',hv=>by
    simp only [evOps] at hv
    split at hv
    · rename_i s1 h1
      obtain ⟨n,hn⟩:=stepOp_fuel h1
      obtain ⟨m,hm⟩:=evOps_fuel hv
      refine ⟨max n m,?_⟩
      simp only [evOps,stepOp_mono (callWith_mono (evC_le (Nat.le_max_left n m))) hn]
      exact (evOps_mono (callWith_mono (evC_le (Nat.le_max_right n m))) hm).1
    · cases hv
theorem evL_eq:evL P raw=evF P raw (evL P raw):=by
  funext base c s
  have down:∀ r,evL P raw base c s=some r→evF P raw (evL P raw) base c s=some r:=by
    intro r h
    obtain ⟨n,hn⟩:=evL_iff.1 h
    cases n with
    | zero=>simp [evC] at hn
    | succ n=>rw [evC_succ] at hn;exact evF_mono (evC_evL n) _ _ _ _ hn
  have up:∀ r,evF P raw (evL P raw) base c s=some r→evL P raw base c s=some r:=by
    intro r hv
    have lift:∀ n,evF P raw (evC P raw n) base c s=some r→evL P raw base c s=some r:=fun n h=>evL_iff.2 ⟨n+1,by rw [evC_succ];exact h⟩
    cases c with
    | region id ops draw =>
      simp only [evF] at hv
      split at hv
      · cases hv
      · rename_i hl
        split at hv
        · rename_i s1 h1
          obtain ⟨n,hn⟩:=evOps_fuel h1
          cases draw with
          | false =>
            refine lift n ?_
            simp only [evF,Bool.false_eq_true,false_and,if_false]
            rw [hn]
            exact hv
          | true =>
            have hs:DrawSafe P (callWith P raw (evL P raw)) base ops s:=Classical.byContradiction fun hh=>hl ⟨rfl,hh⟩
            rcases hs with ⟨hdn,hl',s2,h2⟩|⟨hdr,hl'⟩
            · obtain ⟨m,hm⟩:=evOps_fuel h2
              refine lift (max n m) ?_
              have hn2:=(evOps_mono (callWith_mono (evC_le (P:=P) (raw:=raw) (Nat.le_max_left n m))) hn).1
              have hm2:=(evOps_mono (callWith_mono (evC_le (P:=P) (raw:=raw) (Nat.le_max_right n m))) hm).1
              have h3:=(evOps_mono (callWith_mono (evC_evL (P:=P) (raw:=raw) (max n m))) hm2).2
              simp only [evF]
              rw [hn2,if_neg]
              · exact hv
              · rintro ⟨_,hn'⟩
                refine hn' (.inl ⟨hdn,?_,s2,hm2⟩)
                simp only [LooseOk,Bool.not_false,← h3]
                exact hl'
            · refine lift n ?_
              have h3:=(evOps_mono (callWith_mono (evC_evL (P:=P) (raw:=raw) n)) hn).2
              simp only [evF]
              rw [hn,if_neg]
              · exact hv
              · rintro ⟨_,hn'⟩
                refine hn' (.inr ⟨hdr,?_⟩)
                simp only [LooseOk,Bool.not_true,← h3]
                exact hl'
        · cases hv
    | seq a b =>
      simp only [evF] at hv
      split at hv
      · rename_i s1 h1
        obtain ⟨n,hn⟩:=evL_iff.1 h1
        obtain ⟨m,hm⟩:=evL_iff.1 hv
        refine lift (max n m) ?_
        simp only [evF,evC_le (Nat.le_max_left n m) _ _ _ _ hn]
        exact evC_le (Nat.le_max_right n m) _ _ _ _ hm
      · rename_i hne
        obtain ⟨n,hn⟩:=evL_iff.1 hv
        refine lift n ?_
        simp only [evF,hn]
        obtain ⟨e1,s1⟩:=r
        cases e1 with
        | normal=>exact absurd hv (hne s1)
        | exit id=>rfl
        | ret=>rfl
    | cond g a b =>
      simp only [evF] at hv
      split at hv
      · rename_i t ht
        obtain ⟨n,hn⟩:=evL_iff.1 hv
        exact lift n (by simp only [evF,ht];exact hn)
      · cases hv
    | block id b =>
      simp only [evF] at hv
      split at hv
      · rename_i id' s1 h1
        obtain ⟨n,hn⟩:=evL_iff.1 h1
        exact lift n (by simp only [evF,hn];exact hv)
      · rename_i hne
        obtain ⟨n,hn⟩:=evL_iff.1 hv
        refine lift n ?_
        simp only [evF,hn]
        obtain ⟨e1,s1⟩:=r
        cases e1 with
        | normal=>rfl
        | exit id'=>exact absurd hv (hne id' s1)
        | ret=>rfl
    | loop b =>
      simp only [evF] at hv
      split at hv
      · rename_i s1 h1
        obtain ⟨n,hn⟩:=evL_iff.1 h1
        obtain ⟨m,hm⟩:=evL_iff.1 hv
        refine lift (max n m) ?_
        simp only [evF,evC_le (Nat.le_max_left n m) _ _ _ _ hn]
        exact evC_le (Nat.le_max_right n m) _ _ _ _ hm
      · rename_i hne
        obtain ⟨n,hn⟩:=evL_iff.1 hv
        refine lift n ?_
        simp only [evF,hn]
        obtain ⟨e1,s1⟩:=r
        cases e1 with
        | normal=>exact absurd hv (hne s1)
        | exit id=>rfl
        | ret=>rfl
    | scope b =>
      obtain ⟨n,hn⟩:=evL_iff.1 (show evL P raw base b s=some r from hv)
      exact lift n hn
    | rangeFunc g ps assign body =>
      simp only [evF] at hv
      split at hv
      · rename_i hf
        split at hv
        · rename_i r2 h2 hcall
          obtain ⟨n,hn⟩:=callL_fuel hcall
          refine lift n ?_
          simp only [evF]
          rw [if_pos hf,hn]
          exact hv
        · cases hv
      · cases hv
    | _=>exact lift 0 hv
  cases h1:evL P raw base c s with
  | some r=>exact (down r h1).symm
  | none =>
    cases h2:evF P raw (evL P raw) base c s with
    | none=>rfl
    | some r=>rw [up r h2] at h1;cases h1
theorem callL_sound (hP:AllOk P) {μ:Mu} {h:Heap} {w:World} {base:Nat} {f:FuncId} {args:List AVal} {A:Array Value} {r:AVal} {h':Heap} (hb:base≤h.length) (H:HRel P μ h w) (hargs:VRs μ args A.toList)
    (hr:r ≠ .bool false) (hv:callL P raw base (.fn f [] []) args h=some (r,h')) (hs:∀ a b c,r ≠ .slice a b c:=by intro _ _ _ q;cases q) (ht:r ≠ .tuple []:=by intro q;cases q):CallsIn Fence.wide 0 P f A w (fun e w''=>∃ X,e=.returned X∧Fine P base μ h w r h' X w''):=by
  obtain ⟨n,hn⟩:=callL_fuel hv
  have hnb:∀ fn,P.funcs[f]?=some fn→bodyA fn args ≠ none:=fun fn hf q=>by
    unfold callL callWith at hv
    simp only [hf,q] at hv
    split at hv
    · unfold extA at hv
      split at hv
      · rcases insB_or hv with hv|hv
        · obtain ⟨_,_,_,_,_,_,_,_,_,_,_,_,_,_,-,-,-,-,-,-,-,-,-,-,e⟩:=insA_inv hv
          exact hs _ _ _ (Prod.mk.inj e).1
        · obtain ⟨_,_,_,_,_,_,_,_,_,_,_,_,_,_,-,-,-,-,-,-,-,-,-,-,e⟩:=ins2A_inv hv
          exact hs _ _ _ (Prod.mk.inj e).1
      · split at hv
        · obtain ⟨_,_,_,_,_,_,_,-,-,-,-,-,-,-,e⟩:=srtA_inv hv
          exact ht (Prod.mk.inj e).1
        · have:=ovlA_inv hv
          exact hr (Prod.mk.inj this).1
    · cases hv
  have:=(fn_sound hP (sound (raw:=raw) hP n) (F:=Fence.wide) (fun _=>trivial) ⟨rfl,rfl⟩ H (first:=[]) (captured:=[]) (A:=#[]) (B:=#[]) (by exact VRs.nil) (by exact VRs.nil) hargs hb hnb hn).2
  simpa using this
end
end Go.AM
namespace Go.AM
structure Dep2 (A B:Prop):Type where
structure DepK {α:Type} (K:α→Prop):Type where
structure DepP {α β:Type} (K:α→β→Prop):Type where
structure DepW (c:Code) (Q:AExit→St→Prop):Type where
section
variable (P:Program) (raw:FuncId→Bool) (base:Nat)
def WP (c:Code) (s:St) (Q:AExit→St→Prop) (_:DepW c Q:=⟨⟩):Prop:=∃ e s',evL P raw base c s=some (e,s')∧Q e s'
def OPS (ops:Array Oper) (chk:Bool) (l:List Oper) (s:St) (K:St→Prop):Prop:=∃ s',evOps P (callL P raw) base ops chk l s=some s'∧K s'
def STEP (ops:Array Oper) (chk:Bool) (o:Oper) (s:St) (K:St→Prop):Prop:=∃ s',stepOp P (callL P raw) base ops chk o s=some s'∧K s'
end
def thenQ (K:St→Prop) (Q:AExit→St→Prop):AExit→St→Prop
  | .normal,s=>K s
  | e,s=>Q e s
def inBlockQ (id:Nat) (Q:AExit→St→Prop):AExit→St→Prop
  | .exit id',s=>if id'=id then Q .normal s else Q (.exit id') s
  | e,s=>Q e s
def bindv {α:Type} (x:Option α) (K:α→Prop) (_:DepK K:=⟨⟩):Prop:=∃ v,x=some v∧K v
def bindp {α β:Type} (x:Option (α × β)) (K:α→β→Prop) (_:DepP K:=⟨⟩):Prop:=∃ v h,x=some (v,h)∧K v h
def cnd (p:Prop) (A B:Prop) (_:Dep2 A B:=⟨⟩):Prop:=(p→A)∧(¬ p→B)
def condQ (v:AVal) (A B:Prop) (_:Dep2 A B:=⟨⟩):Prop:=match v with|.bool t=>if t=true then A else B|_=>False
def guardQ (g:Option Bool) (A B:Prop) (_:Dep2 A B:=⟨⟩):Prop:=match g with|some true=>A|some false=>B|.none=>False
def extQ (chk:Bool) (h h':Heap) (A:Prop):Prop:=(chk=true→∃ t,h'=h++t)∧A
section
variable {P:Program} {raw:FuncId→Bool} {base:Nat} {s:St} {Q:AExit→St→Prop} {K:St→Prop}
theorem bindv_some {α:Type} {v:α} {K:α→Prop}:bindv (some v) K=K v:=by simp [bindv]
theorem bindp_some {α β:Type} {v:α} {h:β} {K:α→β→Prop}:bindp (some (v,h)) K=K v h:=by
  apply propext
  exact ⟨fun ⟨_,_,e,k⟩=>by cases e;exact k,fun k=>⟨v,h,rfl,k⟩⟩
theorem cnd_true {A B:Prop}:cnd True A B=A:=by simp [cnd]
theorem cnd_false {A B:Prop}:cnd False A B=B:=by simp [cnd]
theorem condQ_bool {b:Bool} {A B:Prop}:condQ (.bool b) A B=cnd (b=true) A B:=by cases b<;>simp [condQ,cnd]
theorem guardQ_some {b:Bool} {A B:Prop}:guardQ (some b) A B=cnd (b=true) A B:=by cases b<;>simp [guardQ,cnd]
theorem extQ_false {h h':Heap} {A:Prop}:extQ false h h' A=A:=by simp [extQ]
theorem extQ_same {h:Heap} {A:Prop}:extQ true h h A=A:=by simp only [extQ,true_imp_iff,and_iff_right_iff_imp,eq_iff_iff];exact fun _=>⟨[],by simp⟩
theorem thenQ_normal {K:St→Prop}:thenQ K Q .normal s=K s:=rfl
theorem thenQ_ret {K:St→Prop}:thenQ K Q .ret s=Q .ret s:=rfl
theorem thenQ_exit {K:St→Prop} {id:Nat}:thenQ K Q (.exit id) s=Q (.exit id) s:=rfl
theorem inBlockQ_normal {id:Nat}:inBlockQ id Q .normal s=Q .normal s:=rfl
theorem inBlockQ_ret {id:Nat}:inBlockQ id Q .ret s=Q .ret s:=rfl
theorem inBlockQ_same {id:Nat}:inBlockQ id Q (.exit id) s=Q .normal s:=by simp [inBlockQ]
theorem inBlockQ_ne {id id':Nat} (h:id' ≠ id):inBlockQ id Q (.exit id') s=Q (.exit id') s:=by simp [inBlockQ,h]
theorem WP_iff {c:Code}:WP P raw base c s Q ↔ ∃ e s',evF P raw (evL P raw) base c s=some (e,s')∧Q e s':=by rw [← evL_eq];exact Iff.rfl
theorem WP_skip:WP P raw base .skip s Q=Q .normal s:=by
  apply propext;rw [WP_iff]
  exact ⟨fun ⟨_,_,e,k⟩=>by cases e;exact k,fun k=>⟨_,_,rfl,k⟩⟩
theorem WP_ret:WP P raw base .ret s Q=Q .ret s:=by
  apply propext;rw [WP_iff]
  exact ⟨fun ⟨_,_,e,k⟩=>by cases e;exact k,fun k=>⟨_,_,rfl,k⟩⟩
theorem WP_label {l:Nat}:WP P raw base (.label l) s Q=Q .normal s:=by
  apply propext;rw [WP_iff]
  exact ⟨fun ⟨_,_,e,k⟩=>by cases e;exact k,fun k=>⟨_,_,rfl,k⟩⟩
theorem WP_exit {id:Nat}:WP P raw base (.exit id) s Q=Q (.exit id) s:=by
  apply propext;rw [WP_iff]
  exact ⟨fun ⟨_,_,e,k⟩=>by cases e;exact k,fun k=>⟨_,_,rfl,k⟩⟩
theorem WP_scope {c:Code}:WP P raw base (.scope c) s Q=WP P raw base c s Q:=by
  apply propext;rw [WP_iff];rfl
theorem WP_seq {a b:Code}:WP P raw base (.seq a b) s Q=WP P raw base a s (thenQ (fun s1=>WP P raw base b s1 Q) Q):=by
  apply propext;rw [WP_iff]
  simp only [evF,WP]
  constructor
  · rintro ⟨e,s',h,hq⟩
    split at h
    · rename_i s1 h1
      exact ⟨.normal,s1,h1,e,s',h,hq⟩
    · rename_i hne
      refine ⟨e,s',h,?_⟩
      cases e with
      | normal=>exact absurd h (hne s')
      | exit id=>exact hq
      | ret=>exact hq
  · rintro ⟨e,s1,h,hq⟩
    cases e with
    | normal =>
      obtain ⟨e',s',h',hq'⟩:=hq
      exact ⟨e',s',by rw [h];exact h',hq'⟩
    | exit id=>exact ⟨.exit id,s1,by rw [h],hq⟩
    | ret=>exact ⟨.ret,s1,by rw [h],hq⟩
theorem WP_block {id:Nat} {c:Code}:WP P raw base (.block id c) s Q=WP P raw base c s (inBlockQ id Q):=by
  apply propext;rw [WP_iff]
  simp only [evF,WP]
  constructor
  · rintro ⟨e,s',h,hq⟩
    split at h
    · rename_i id' s1 h1
      refine ⟨.exit id',s1,h1,?_⟩
      simp only [inBlockQ]
      split at h
      · rename_i hid
        simp only [Option.some.injEq,Prod.mk.injEq] at h;obtain ⟨rfl,rfl⟩:=h
        rw [if_pos hid];exact hq
      · rename_i hid
        simp only [Option.some.injEq,Prod.mk.injEq] at h;obtain ⟨rfl,rfl⟩:=h
        rw [if_neg hid];exact hq
    · rename_i hne
      refine ⟨e,s',h,?_⟩
      cases e with
      | normal=>exact hq
      | exit id=>exact absurd h (hne id s')
      | ret=>exact hq
  · rintro ⟨e,s1,h,hq⟩
    cases e with
    | normal=>exact ⟨.normal,s1,by rw [h],hq⟩
    | exit id' =>
      simp only [inBlockQ] at hq
      rw [h]
      simp only
      split at hq
      · rename_i hid;exact ⟨.normal,s1,by rw [if_pos hid],hq⟩
      · rename_i hid;exact ⟨.exit id',s1,by rw [if_neg hid],hq⟩
    | ret=>exact ⟨.ret,s1,by rw [h],hq⟩
theorem WP_cond {g:Operand} {a b:Code} {fr:AFrame} {h:Heap}:WP P raw base (.cond g a b) ⟨fr,h⟩ Q=condQ (ev fr g) (WP P raw base a ⟨fr,h⟩ Q) (WP P raw base b ⟨fr,h⟩ Q):=by
  apply propext;rw [WP_iff]
  simp only [evF,condQ]
  cases hv:ev fr g with
  | bool t=>cases t<;>simp [WP]
  | _=>simp
theorem WP_region {id:Nat} {l:List Oper}:WP P raw base (.region id l.toArray false) s Q=OPS P raw base l.toArray false l s (Q .normal):=by
  apply propext;rw [WP_iff]
  simp only [evF,OPS,Bool.false_eq_true,false_and,if_false]
  constructor
  · rintro ⟨e,s',h,hq⟩
    split at h
    · rename_i s1 h1
      simp only [Option.some.injEq,Prod.mk.injEq] at h;obtain ⟨rfl,rfl⟩:=h
      exact ⟨s1,h1,hq⟩
    · cases h
  · rintro ⟨s1,h,hq⟩
    exact ⟨.normal,s1,by rw [h],hq⟩
theorem WP_safe {id:Nat} {l:List Oper} {s1:St} (hs:DrawSafe P (callWith P raw (evL P raw)) base l.toArray s) (h:evOps P (callL P raw) base l.toArray false l s=some s1) (hq:Q .normal s1):WP P raw base (.region id l.toArray true) s Q:=by
  rw [WP_iff]
  simp only [evF,hs,not_true_eq_false,and_false,if_false]
  exact ⟨.normal,s1,by rw [show evOps P (callWith P raw (evL P raw)) base l.toArray false l.toArray.toList s=some s1 from h],hq⟩
theorem WP_draw {id:Nat} {l:List Oper} (hl:looseL false l.toArray=[]) (h:OPS P raw base l.toArray true l s (Q .normal)) (hd:drawOk (quietB P) false l.toArray=true):WP P raw base (.region id l.toArray true) s Q:=by
  obtain ⟨s1,h1,hq⟩:=h
  have hlo:LooseOk P (callWith P raw (evL P raw)) base false l.toArray s:=by intro i hi;rw [hl] at hi;cases hi
  exact WP_safe (.inl ⟨hd,hlo,s1,h1⟩) (evOps_unchk h1) hq
theorem OPS_nil {ops:Array Oper} {chk:Bool}:OPS P raw base ops chk [] s K=K s:=by simp [OPS,evOps]
theorem OPS_cons {ops:Array Oper} {chk:Bool} {o:Oper} {l:List Oper}:OPS P raw base ops chk (o :: l) s K=STEP P raw base ops chk o s (fun s1=>OPS P raw base ops chk l s1 K):=by
  apply propext
  simp only [OPS,STEP,evOps]
  constructor
  · rintro ⟨s',h,hk⟩
    split at h
    · rename_i s1 h1;exact ⟨s1,h1,s',h,hk⟩
    · cases h
  · rintro ⟨s1,h1,s',h,hk⟩
    exact ⟨s',by rw [h1];exact h,hk⟩
theorem WP_loop {c:Code} (I:St→Prop) (m:St→Nat) (h0:I s) (step:∀ s,I s→WP P raw base c s (thenQ (fun s'=>I s'∧m s'<m s) Q)):WP P raw base (.loop c) s Q:=by
  have key:∀ n s,m s=n→I s→WP P raw base (.loop c) s Q:=by
    intro n
    induction n using Nat.strongRecOn with
    | _ n ih =>
      intro s hn hI
      rw [WP_iff]
      obtain ⟨e,s1,h1,hq⟩:=step s hI
      simp only [evF]
      rw [h1]
      cases e with
      | normal=>exact ih (m s1) (hn ▸ hq.2) s1 rfl hq.1
      | exit id=>exact ⟨_,_,rfl,hq⟩
      | ret=>exact ⟨_,_,rfl,hq⟩
  exact key _ s rfl h0
section ops
variable {ops:Array Oper} {chk:Bool} {fr:AFrame} {h:Heap} {d:Option Tmp} {ty:TypeId} {pos:String} {af:Array Edge}
theorem STEP_guard {op:Op} {g:Nat × Bool}:STEP P raw base ops chk ⟨d,op,ty,pos,af,some g⟩ ⟨fr,h⟩ K =
    guardQ (guardA ops fr (some g)) (STEP P raw base ops chk ⟨d,op,ty,pos,af,none⟩ ⟨fr,h⟩ K) (K ⟨put fr d undefA,h⟩):=by
  apply propext
  simp only [STEP,stepOp,guardQ]
  cases hg:guardA ops fr (some g) with
  | none=>simp
  | some b=>cases b<;>simp [guardA]
theorem STEP_pure {op:Op} (hp:isPure op=true):STEP P raw base ops chk ⟨d,op,ty,pos,af,none⟩ ⟨fr,h⟩ K=bindv (pureA P fr h op) (fun v=>K ⟨put fr d v,h⟩):=by
  apply propext
  simp only [STEP,stepOp,guardA,hp,if_true,bindv]
  cases pureA P fr h op<;>simp
theorem STEP_move {x:Operand}:STEP P raw base ops chk ⟨d,.move x,ty,pos,af,none⟩ ⟨fr,h⟩ K=bindv (some (ev fr x)) (fun v=>K ⟨put fr d v,h⟩):=STEP_pure rfl
theorem STEP_assign {x:Operand}:STEP P raw base ops chk ⟨d,.assign x,ty,pos,af,none⟩ ⟨fr,h⟩ K=bindv (some (ev fr x)) (fun v=>K ⟨put fr d v,h⟩):=STEP_pure rfl
def pickA (c a b:AVal):Option AVal:=match c with|.bool t=>some (if t then a else b)|_=>.none
theorem STEP_pick {c a b:Operand}:STEP P raw base ops chk ⟨d,.pick c a b,ty,pos,af,none⟩ ⟨fr,h⟩ K=bindv (pickA (ev fr c) (ev fr a) (ev fr b)) (fun v=>K ⟨put fr d v,h⟩):=STEP_pure rfl
def loadP (P:Program) (h:Heap) (t:TypeId) (a:AVal):Option AVal:=match a with|.ptr (some r)=>loadA P h t r|_=>.none
theorem STEP_load {t:TypeId} {a:Operand}:STEP P raw base ops chk ⟨d,.load t a,ty,pos,af,none⟩ ⟨fr,h⟩ K=bindv (loadP P h t (ev fr a)) (fun v=>K ⟨put fr d v,h⟩):=STEP_pure rfl
def nilCheckA (x:AVal):Option AVal:=match x with|.ptr (some r)=>some (.ptr (some r))|_=>.none
theorem STEP_nilCheck {x:Operand}:STEP P raw base ops chk ⟨d,.nilCheck x,ty,pos,af,none⟩ ⟨fr,h⟩ K=bindv (nilCheckA (ev fr x)) (fun v=>K ⟨put fr d v,h⟩):=STEP_pure rfl
theorem STEP_binOp {op:BinOp} {t t':TypeId} {x y:Operand}:STEP P raw base ops chk ⟨d,.binOp op t x y t',ty,pos,af,none⟩ ⟨fr,h⟩ K=bindv (binA P op t (ev fr x) (ev fr y)) (fun v=>K ⟨put fr d v,h⟩):=STEP_pure rfl
theorem STEP_unOp {op:UnOp} {t:TypeId} {x:Operand}:STEP P raw base ops chk ⟨d,.unOp op t x,ty,pos,af,none⟩ ⟨fr,h⟩ K=bindv (unA op (ev fr x)) (fun v=>K ⟨put fr d v,h⟩):=STEP_pure rfl
theorem STEP_convert {t t':TypeId} {x:Operand}:STEP P raw base ops chk ⟨d,.convert t t' x,ty,pos,af,none⟩ ⟨fr,h⟩ K=bindv (convA P t' t (ev fr x)) (fun v=>K ⟨put fr d v,h⟩):=STEP_pure rfl
theorem STEP_makeFunc {f:FuncId} {a b:List Operand}:STEP P raw base ops chk ⟨d,.makeFunc (.func f) a.toArray b.toArray,ty,pos,af,none⟩ ⟨fr,h⟩ K=bindv (some (.fn f (a.map (ev fr)) (b.map (ev fr)))) (fun v=>K ⟨put fr d v,h⟩):=STEP_pure rfl
theorem STEP_slice {t:TypeId} {x:Operand} {lo hi:Option Operand}:STEP P raw base ops chk ⟨d,.slice t x lo hi none,ty,pos,af,none⟩ ⟨fr,h⟩ K=bindv (sliceA P t (ev fr x) (lo.map (ev fr)) (hi.map (ev fr)) none) (fun v=>K ⟨put fr d v,h⟩):=STEP_pure rfl
theorem STEP_fieldAddr {t:TypeId} {x:Operand} {f:Nat}:STEP P raw base ops chk ⟨d,.fieldAddr t x f,ty,pos,af,none⟩ ⟨fr,h⟩ K=bindv (fieldAddrA P t (ev fr x) f) (fun v=>K ⟨put fr d v,h⟩):=STEP_pure rfl
theorem STEP_field {t:TypeId} {x:Operand} {f:Nat}:STEP P raw base ops chk ⟨d,.field t x f,ty,pos,af,none⟩ ⟨fr,h⟩ K=bindv (fieldA P t (ev fr x) f) (fun v=>K ⟨put fr d v,h⟩):=STEP_pure rfl
theorem STEP_indexAddr {t:TypeId} {x i:Operand}:STEP P raw base ops chk ⟨d,.indexAddr t x i,ty,pos,af,none⟩ ⟨fr,h⟩ K=bindv (indexAddrA P t (ev fr x) (ev fr i)) (fun v=>K ⟨put fr d v,h⟩):=STEP_pure rfl
theorem STEP_index {t:TypeId} {x i:Operand}:STEP P raw base ops chk ⟨d,.index t x i,ty,pos,af,none⟩ ⟨fr,h⟩ K=bindv (indexA P t (ev fr x) (ev fr i)) (fun v=>K ⟨put fr d v,h⟩):=STEP_pure rfl
theorem STEP_lookup {t:TypeId} {x i:Operand} {ok:Bool}:STEP P raw base ops chk ⟨d,.lookup t x i ok,ty,pos,af,none⟩ ⟨fr,h⟩ K=bindv (lookupA P h t (ev fr x) (ev fr i) ok) (fun v=>K ⟨put fr d v,h⟩):=STEP_pure rfl
theorem STEP_extract {x:Operand} {i:Nat}:STEP P raw base ops chk ⟨d,.extract x i,ty,pos,af,none⟩ ⟨fr,h⟩ K=bindv (extractA (ev fr x) i) (fun v=>K ⟨put fr d v,h⟩):=STEP_pure rfl
theorem STEP_build {t:TypeId} {ps:List (Nat × Operand)}:STEP P raw base ops chk ⟨d,.build t ps.toArray,ty,pos,af,none⟩ ⟨fr,h⟩ K=bindv (buildA P t (ps.map fun p=>(p.1,ev fr p.2))) (fun v=>K ⟨put fr d v,h⟩):=STEP_pure rfl
theorem STEP_eff {op:Op} (hp:isPure op=false):STEP P raw base ops chk ⟨d,op,ty,pos,af,none⟩ ⟨fr,h⟩ K =
    bindp (effA P (callL P raw) base (litIn ops.toList d) fr h op) (fun v h'=>extQ (chk && isD op) h h' (K ⟨put fr d v,h'⟩)):=by
  apply propext
  simp only [STEP,stepOp,guardA,hp,Bool.false_eq_true,if_false,bindp,extQ]
  constructor
  · rintro ⟨s',h1,hk⟩
    split at h1
    · rename_i v h' he
      split at h1
      · cases h1
      · rename_i hc
        cases h1
        refine ⟨v,h',he,fun hx=>?_,hk⟩
        simp only [Bool.and_eq_true] at hx
        simp only [hx.1,hx.2,true_and,Classical.not_not] at hc
        exact hc
    · cases h1
  · rintro ⟨v,h',he,hx,hk⟩
    refine ⟨_,?_,hk⟩
    rw [he]
    simp only
    rw [if_neg]
    rintro ⟨h1,h2,h3⟩
    exact h3 (hx (by simp [h1,h2]))
theorem STEP_eff0 {op:Op} (hp:isPure op=false) (hd:isD op=false):STEP P raw base ops chk ⟨d,op,ty,pos,af,none⟩ ⟨fr,h⟩ K =
    bindp (effA P (callL P raw) base (litIn ops.toList d) fr h op) (fun v h'=>K ⟨put fr d v,h'⟩):=by
  have e:(fun v h'=>extQ (chk && isD op) h h' (K ⟨put fr d v,h'⟩))=fun v h'=>K ⟨put fr d v,h'⟩:=by
    funext v h';rw [hd,Bool.and_false,extQ_false]
  rw [STEP_eff hp,e]
theorem STEP_store {t:TypeId} {a x:Operand}:STEP P raw base ops chk ⟨d,.store t a x,ty,pos,af,none⟩ ⟨fr,h⟩ K =
    bindp (match ev fr a with
      | .ptr (some r)=>if (tyA P t).map (·.2)=some (ev fr x).cells.length then (storeN base h r (ev fr x).cells).map fun h'=>(undefA,h') else .none
      | _=>.none) (fun v h'=>K ⟨put fr d v,h'⟩):=STEP_eff0 rfl rfl
theorem STEP_alloc {t:TypeId}:STEP P raw base ops chk ⟨d,.alloc t,ty,pos,af,none⟩ ⟨fr,h⟩ K =
    bindv (zc P t) (fun z=>K ⟨put fr d (.ptr (some ⟨h.length,0,0⟩)),h++[⟨.cells z t false false,0⟩]⟩):=by
  rw [STEP_eff0 rfl rfl];simp only [effA,memA]
  cases zc P t with
  | none=>simp [bindp,bindv]
  | some z=>rw [bindv_some];simp only [Option.map_some,bindp_some]
def boxA (h:Heap) (t:TypeId) (x:AVal):Option (AVal × Heap):=if x.isN=true then .none else some (.ptr (some ⟨h.length,0,0⟩),h++[⟨.cells x.cells t false false,0⟩])
theorem STEP_box {t:TypeId} {x:Operand}:STEP P raw base ops chk ⟨d,.box t x,ty,pos,af,none⟩ ⟨fr,h⟩ K=bindp (boxA h t (ev fr x)) (fun v h'=>K ⟨put fr d v,h'⟩):=STEP_eff0 rfl rfl
def bsA (P:Program) (lit:Bool) (h:Heap) (t:TypeId) (n:Nat) (ps:List (Nat × AVal)):Option (AVal × Heap) :=
  match rowOf P t n ps with
  | some (e,z,cs) =>
    if n=0 then some (.emp,h) else
    if lit=true∧z=1∧cs.all AVal.bare=true then some (.vals cs,h) else
    some (.slice (some ⟨h.length,0,0⟩) n n,h++[⟨.cells cs e true false,0⟩])
  | .none=>.none
theorem STEP_buildSlice {t:TypeId} {n:Nat} {ps:List (Nat × Operand)}:STEP P raw base ops chk ⟨d,.buildSlice t n ps.toArray,ty,pos,af,none⟩ ⟨fr,h⟩ K =
    bindp (bsA P (litIn ops.toList d) h t n (ps.map fun p=>(p.1,ev fr p.2))) (fun v h'=>K ⟨put fr d v,h'⟩):=STEP_eff0 rfl rfl
theorem STEP_makeSlice {t:TypeId} {l c:Operand}:STEP P raw base ops chk ⟨d,.makeSlice t l c,ty,pos,af,none⟩ ⟨fr,h⟩ K=bindp (makeSliceA P h t (ev fr l) (ev fr c)) (fun v h'=>K ⟨put fr d v,h'⟩):=STEP_eff0 rfl rfl
theorem STEP_makeMap {t:TypeId}:STEP P raw base ops chk ⟨d,.makeMap t none,ty,pos,af,none⟩ ⟨fr,h⟩ K =
    bindv (mpT P t) (fun _=>K ⟨put fr d (.map (some h.length)),h++[⟨.map [],0⟩]⟩):=by
  rw [STEP_eff0 rfl rfl];simp only [effA,memA]
  cases mpT P t with
  | none=>simp [bindp,bindv]
  | some z=>rw [bindv_some];simp only [Option.map_some,bindp_some]
theorem STEP_mapUpdate {t:TypeId} {m k x:Operand}:STEP P raw base ops chk ⟨d,.mapUpdate t m k x,ty,pos,af,none⟩ ⟨fr,h⟩ K =
    bindv (mapUpdateA P base h t (ev fr m) (ev fr k) (ev fr x)) (fun h'=>K ⟨put fr d undefA,h'⟩):=by
  rw [STEP_eff0 rfl rfl];simp only [effA,memA]
  cases mapUpdateA P base h t (ev fr m) (ev fr k) (ev fr x) with
  | none=>simp [bindp,bindv]
  | some z=>rw [bindv_some];simp only [Option.map_some,bindp_some]
theorem STEP_call {g:Operand} {as:List Operand} {ts:Array TypeId}:STEP P raw base ops chk ⟨d,.call ⟨.value g,as.toArray,ts⟩,ty,pos,af,none⟩ ⟨fr,h⟩ K =
    bindp (callL P raw base (ev fr g) (as.map (ev fr)) h) (fun v h'=>extQ chk h h' (K ⟨put fr d v,h'⟩)):=by
  have e:(fun v h'=>extQ (chk && isD (.call ⟨.value g,as.toArray,ts⟩)) h h' (K ⟨put fr d v,h'⟩))=fun v h'=>extQ chk h h' (K ⟨put fr d v,h'⟩):=by
    funext v h';simp only [isD,Bool.and_true]
  rw [STEP_eff rfl,e];rfl
theorem STEP_len {t:TypeId} {ts:List TypeId} {x:Operand}:STEP P raw base ops chk ⟨d,.call ⟨.builtin .len,[x].toArray,(t :: ts).toArray⟩,ty,pos,af,none⟩ ⟨fr,h⟩ K =
    bindv (lenOpA P h t (ev fr x)) (fun v=>K ⟨put fr d v,h⟩):=by
  rw [STEP_eff rfl]
  simp only [effA,List.map_cons,List.map_nil,builtinA]
  cases lenOpA P h t (ev fr x) with
  | none=>simp [bindp,bindv]
  | some v =>
    simp only [Option.map_some,bindp_some,bindv_some]
    cases chk<;>simp only [Bool.false_and,Bool.true_and,extQ_false,isD,extQ_same]
theorem STEP_append {t t':TypeId} {s x:Operand}:STEP P raw base ops chk ⟨d,.call ⟨.builtin .append,[s,x].toArray,[t,t'].toArray⟩,ty,pos,af,none⟩ ⟨fr,h⟩ K =
    bindp (if (elS P t').isNone=true then .none else appendA P base h t (ev fr s) (ev fr x)) (fun v h'=>K ⟨put fr d v,h'⟩):=STEP_eff0 rfl rfl
theorem STEP_clear {t:TypeId} {ts:List TypeId} {x:Operand}:STEP P raw base ops chk ⟨d,.call ⟨.builtin .clear,[x].toArray,(t :: ts).toArray⟩,ty,pos,af,none⟩ ⟨fr,h⟩ K =
    bindp (clearA P base h t (ev fr x)) (fun v h'=>K ⟨put fr d v,h'⟩):=STEP_eff0 rfl rfl
end ops
end
theorem ev_tmp {fr:AFrame} {t:Tmp}:ev fr (.tmp t)=fr t:=rfl
theorem ev_int {fr:AFrame} {k:IntKind} {n:Int}:ev fr (.const (.int k n))=.int k n:=rfl
theorem ev_bool {fr:AFrame} {b:Bool}:ev fr (.const (.bool b))=.bool b:=rfl
theorem ev_nilS {fr:AFrame}:ev fr (.const (.slice none 0 0))=.slice none 0 0:=rfl
theorem ev_nilP {fr:AFrame}:ev fr (.const (.pointer none))=.ptr none:=rfl
theorem ev_nilM {fr:AFrame}:ev fr (.const (.map none))=.map none:=rfl
theorem ev_nilF {fr:AFrame}:ev fr (.const .nilFunc)=.nilFn:=rfl
theorem ev_func {fr:AFrame} {f:FuncId}:ev fr (.func f)=.fn f [] []:=rfl
theorem put_none {fr:AFrame} {v:AVal}:put fr none v=fr:=rfl
theorem put_same {fr:AFrame} {t:Nat} {v:AVal}:put fr (some t) v t=v:=by simp [put]
theorem put_ne {fr:AFrame} {t d:Nat} {v:AVal} (h:t ≠ d):put fr (some d) v t=fr t:=by simp [put,h]
theorem argFr_zero {x:AVal} {l:List AVal}:argFr (x :: l) 0=x:=rfl
theorem argFr_succ {x:AVal} {l:List AVal} {n:Nat}:argFr (x :: l) (n+1)=argFr l n:=rfl
end Go.AM
namespace Go.AM
section
variable {P:Program} {raw:FuncId→Bool} {base:Nat}
def retQ (P:Program) (fn:Func) (K:AVal→Heap→Prop):AExit→St→Prop
  | .exit _,_=>False
  | _,s=>∃ v,resultsA P fn s.fr s.h=some v∧K v s.h
def oneA:Option (List AVal)→Option AVal
  | some [v]=>some v
  | some vs=>some (.tuple vs)
  | .none=>.none
theorem retQ_ret {fn:Func} {K:AVal→Heap→Prop} {fr:AFrame} {h:Heap}:retQ P fn K .ret ⟨fr,h⟩=bindv (oneA (resultsL P fr h fn.results.toList)) (fun v=>K v h):=rfl
theorem retQ_normal {fn:Func} {K:AVal→Heap→Prop} {fr:AFrame} {h:Heap}:retQ P fn K .normal ⟨fr,h⟩=bindv (oneA (resultsL P fr h fn.results.toList)) (fun v=>K v h):=rfl
def consA (v:Option AVal) (vs:Option (List AVal)):Option (List AVal):=match v,vs with|some v,some vs=>some (v :: vs)|_,_=>.none
theorem resultsL_nil {fr:AFrame} {h:Heap}:resultsL P fr h []=some []:=rfl
theorem resultsL_tmp {fr:AFrame} {h:Heap} {t:Tmp} {rs:List ResultVar}:resultsL P fr h (.tmp t :: rs)=consA (some (fr t)) (resultsL P fr h rs):=by
  simp only [resultsL,resultA,consA];rfl
theorem resultsL_cell {fr:AFrame} {h:Heap} {a:Tmp} {t:TypeId} {rs:List ResultVar}:resultsL P fr h (.cell a t :: rs)=consA (loadP P h t (fr a)) (resultsL P fr h rs):=by
  simp only [resultsL,resultA,consA];rfl
theorem consA_some {v:AVal} {vs:List AVal}:consA (some v) (some vs)=some (v :: vs):=rfl
theorem oneA_one {v:AVal}:oneA (some [v])=some v:=rfl
theorem oneA_two {v w:AVal} {vs:List AVal}:oneA (some (v :: w :: vs))=some (.tuple (v :: w :: vs)):=rfl
theorem insQ_no {fn:Func} {args:List AVal} (hq:xtrQ fn=false):(insQ fn args || srtQ fn args)=false:=by
  unfold xtrQ at hq
  rw [Bool.or_eq_false_iff] at hq
  unfold insQ srtQ;rw [hq.1,hq.2,Bool.false_and,Bool.false_and];rfl
theorem bodyA_of {fn:Func} {args:List AVal} {c:Code} (hb:fn.body=some c) (hq:(insQ fn args || srtQ fn args)=false):bodyA fn args=some c:=by
  unfold bodyA;rw [if_neg (by rw [hq];simp)];exact hb
theorem callL_runQ {f:FuncId} {fn:Func} {c:Code} {first captured args:List AVal} {h h':Heap} {r:AVal} (hf:P.funcs[f]?=some fn) (hb:fn.body=some c) (hraw:raw f=false)
    (hw:WP P raw h.length c ⟨argFr (first++args++captured),h⟩ (retQ P fn (fun v h1=>compact h.length v h1=some (r,h')))) (hq:(insQ fn args || srtQ fn args)=false):callL P raw base (.fn f first captured) args h=some (r,h'):=by
  obtain ⟨e,s',h1,h2⟩:=hw
  have hbA:=bodyA_of (args:=args) hb hq
  unfold callL callWith
  simp only [hf,hbA,hraw,Bool.false_eq_true,if_false,h1]
  cases e with
  | exit id=>exact h2.elim
  | normal=>obtain ⟨v,h3,h4⟩:=h2;simp only [h3];exact h4
  | ret=>obtain ⟨v,h3,h4⟩:=h2;simp only [h3];exact h4
theorem callL_run {f:FuncId} {fn:Func} {c:Code} {first captured args:List AVal} {h h':Heap} {r:AVal} (hf:P.funcs[f]?=some fn) (hb:fn.body=some c) (hraw:raw f=false)
    (hw:WP P raw h.length c ⟨argFr (first++args++captured),h⟩ (retQ P fn (fun v h1=>compact h.length v h1=some (r,h')))) (hq:xtrQ fn=false:=by kernel_rfl):callL P raw base (.fn f first captured) args h=some (r,h') :=
  callL_runQ hf hb hraw hw (insQ_no hq)
theorem callL_raw {f:FuncId} {fn:Func} {c:Code} {first captured args:List AVal} {h h':Heap} {r:AVal} (hf:P.funcs[f]?=some fn) (hb:fn.body=some c) (hraw:raw f=true)
    (hw:WP P raw base c ⟨argFr (first++args++captured),h⟩ (retQ P fn (fun v h1=>v=r∧h1=h'))) (hq:xtrQ fn=false:=by kernel_rfl):callL P raw base (.fn f first captured) args h=some (r,h'):=by
  obtain ⟨e,s',h1,h2⟩:=hw
  have hbA:=bodyA_of (args:=args) hb (insQ_no hq)
  unfold callL callWith
  simp only [hf,hbA,hraw,if_true,h1]
  cases e with
  | exit id=>exact h2.elim
  | normal=>obtain ⟨v,h3,rfl,rfl⟩:=h2;simp only [h3]
  | ret=>obtain ⟨v,h3,rfl,rfl⟩:=h2;simp only [h3]
def dstAt:List Oper→Nat→Option Tmp
  | [],_=>none
  | o :: _,0=>o.dst
  | _ :: l,j+1=>dstAt l j
def gv (v:AVal) (want:Bool):Option Bool:=match v with|.bool b=>some (b == want)|.tuple _=>some false|_=>none
def guardV (d:Option Tmp) (fr:AFrame) (want:Bool):Option Bool:=match d with|some d=>gv (fr d) want|none=>none
theorem dstAt_eq:∀ (l:List Oper) (j:Nat),dstAt l j=(l[j]?).bind (·.dst)
  | [],j=>by simp [dstAt]
  | o :: l,0=>by simp [dstAt]
  | o :: l,j+1=>by simp [dstAt,dstAt_eq l j]
theorem guard_lit {l:List Oper} {fr:AFrame} {j:Nat} {want:Bool}:guardA l.toArray fr (some (j,want))=guardV (dstAt l j) fr want:=by
  rw [dstAt_eq]
  simp only [guardA,List.getElem?_toArray,guardV,gv]
  cases (l[j]?).bind (·.dst)<;>rfl
theorem dstAt_zero {o:Oper} {l:List Oper}:dstAt (o :: l) 0=o.dst:=rfl
theorem dstAt_succ {o:Oper} {l:List Oper} {j:Nat}:dstAt (o :: l) (j+1)=dstAt l j:=rfl
theorem guardV_some {d:Tmp} {fr:AFrame} {want:Bool}:guardV (some d) fr want=gv (fr d) want:=rfl
theorem gv_true {b:Bool}:gv (.bool b) true=some b:=by simp [gv]
theorem gv_false {b:Bool}:gv (.bool b) false=some !b:=by simp [gv]
theorem gv_undef {want:Bool}:gv undefA want=some false:=rfl
mutual
def AVal.plain:AVal→Bool
  | .bool _|.int _ _|.str _|.ptr .none|.slice .none _ _|.emp|.map .none|.nilFn|.none=>true
  | .agg cs=>plainL cs
  | .tuple cs=>plainL cs
  | .fn _ a b=>plainL a && plainL b
  | _=>false
def plainL:List AVal→Bool
  | []=>true
  | v :: vs=>v.plain && plainL vs
end
mutual
theorem plain_refs:∀ {v:AVal},v.plain=true→v.refs=[]
  | .bool _,_=>rfl
  | .int _ _,_=>rfl
  | .str _,_=>rfl
  | .ptr .none,_=>rfl
  | .slice .none _ _,_=>rfl
  | .emp,_=>rfl
  | .map .none,_=>rfl
  | .nilFn,_=>rfl
  | .none,_=>rfl
  | .agg cs,h=>by simp only [AVal.plain] at h;simp only [AVal.refs];exact plainL_refs h
  | .tuple cs,h=>by simp only [AVal.plain] at h;simp only [AVal.refs];exact plainL_refs h
  | .fn _ a b,h=>by simp only [AVal.plain,Bool.and_eq_true] at h;simp only [AVal.refs,plainL_refs h.1,plainL_refs h.2,List.append_nil]
theorem plainL_refs:∀ {l:List AVal},plainL l=true→refsL l=[]
  | [],_=>rfl
  | v :: vs,h=>by simp only [plainL,Bool.and_eq_true] at h;simp only [refsL,plain_refs h.1,plainL_refs h.2,List.append_nil]
end
mutual
theorem plain_ren {f:Nat→Nat→Nat × Nat}:∀ {v:AVal},v.plain=true→v.ren f=v
  | .bool _,_=>rfl
  | .int _ _,_=>rfl
  | .str _,_=>rfl
  | .ptr .none,_=>rfl
  | .slice .none _ _,_=>rfl
  | .emp,_=>rfl
  | .map .none,_=>rfl
  | .nilFn,_=>rfl
  | .none,_=>rfl
  | .agg cs,h=>by simp only [AVal.plain] at h;simp only [AVal.ren,plainL_ren h]
  | .tuple cs,h=>by simp only [AVal.plain] at h;simp only [AVal.ren,plainL_ren h]
  | .fn _ a b,h=>by simp only [AVal.plain,Bool.and_eq_true] at h;simp only [AVal.ren,plainL_ren h.1,plainL_ren h.2]
theorem plainL_ren {f:Nat→Nat→Nat × Nat}:∀ {l:List AVal},plainL l=true→renL f l=l
  | [],_=>rfl
  | v :: vs,h=>by simp only [plainL,Bool.and_eq_true] at h;simp only [renL,plain_ren h.1,plainL_ren h.2]
end
theorem compact_plain {h t:Heap} {v:AVal} (hv:v.plain=true):compact h.length v (h++t)=some (v,h):=by
  simp only [compact,plain_refs hv,List.map_nil,reach,compactBy,List.all_nil,List.length_append,Nat.le_add_right,List.nodup_nil,and_self,if_true,plain_ren hv,List.take_left,List.append_nil]
theorem compact_plain' {h:Heap} {v:AVal} (hv:v.plain=true):compact h.length v h=some (v,h):=by
  have:=compact_plain (h:=h) (t:=[]) hv
  rwa [List.append_nil] at this
end
section
variable {h t:Heap}
end
theorem wrap64 {n:Int} (h1:-9223372036854775808≤n) (h2:n<9223372036854775808):IntKind.i64.wrap n=n:=by
  simp [IntKind.wrap,IntKind.signed,IntKind.bits]
  omega
section
variable {P:Program} {t:TypeId} {k:IntKind} {a b:Int}
theorem bin_lss:binA P .lss t (.int k a) (.int k b)=some (.bool (decide (a<b))):=by simp [binA,isShift,intBin]
theorem bin_leq:binA P .leq t (.int k a) (.int k b)=some (.bool (decide (a≤b))):=by simp [binA,isShift,intBin]
theorem bin_gtr:binA P .gtr t (.int k a) (.int k b)=some (.bool (decide (a > b))):=by simp [binA,isShift,intBin]
theorem bin_geq:binA P .geq t (.int k a) (.int k b)=some (.bool (decide (a ≥ b))):=by simp [binA,isShift,intBin]
theorem bin_eql:binA P .eql t (.int k a) (.int k b)=some (.bool (decide (a=b))):=by by_cases h:a=b<;>simp [binA,isShift,intBin,h]
theorem bin_neq:binA P .neq t (.int k a) (.int k b)=some (.bool (decide (a ≠ b))):=by
  by_cases h:a=b<;>simp [binA,isShift,intBin,h]
theorem bin_add:binA P .add t (.int k a) (.int k b)=some (.int k (k.wrap (a+b))):=by simp [binA,isShift,intBin]
theorem bin_sub:binA P .sub t (.int k a) (.int k b)=some (.int k (k.wrap (a-b))):=by simp [binA,isShift,intBin]
theorem bin_mul:binA P .mul t (.int k a) (.int k b)=some (.int k (k.wrap (a * b))):=by simp [binA,isShift,intBin]
theorem bin_quo (h:b ≠ 0):binA P .quo t (.int k a) (.int k b)=some (.int k (k.wrap (a.tdiv b))):=by simp [binA,isShift,intBin,h]
theorem bin_rem (h:b ≠ 0):binA P .rem t (.int k a) (.int k b)=some (.int k (a.tmod b)):=by simp [binA,isShift,intBin,h]
theorem bin_shl (h:0≤b):binA P .shl t (.int k a) (.int k b)=some (.int k (k.wrap (a * 2 ^ (min b.toNat k.bits)))):=by
  have:¬ b<0:=by omega
  simp [binA,isShift,shiftA,this]
theorem bin_shr (h:0≤b):binA P .shr t (.int k a) (.int k b)=some (.int k (a.fdiv (2 ^ (min b.toNat k.bits)))):=by
  have:¬ b<0:=by omega
  simp [binA,isShift,shiftA,this]
theorem un_not {c:Bool}:unA .not (.bool c)=some (.bool !c):=rfl
theorem un_neg:unA .neg (.int k a)=some (.int k (k.wrap (0-a))):=rfl
theorem pick_true {x y:AVal}:pickA (.bool true) x y=some x:=rfl
theorem pick_false {x y:AVal}:pickA (.bool false) x y=some y:=rfl
end
def ints (l:List Int):List AVal:=l.map (.int .i64)
def Ints (h:Heap) (v:AVal) (l:List Int):Prop :=
  (l.length<2 ^ 60∧∀ x ∈ l,-9223372036854775808≤x∧x<9223372036854775808) ∧
  ((v=.slice .none 0 0∧l=[]) ∨ (v=.emp∧l=[]) ∨
   ∃ (r:ARef) (k:Nat) (c:List AVal) (e:TypeId) (row ro:Bool),v=.slice (some r) l.length k∧h[r.id]?=some ⟨.cells c e row ro,r.ver⟩∧(c.drop r.off).take l.length=ints l∧r.off+l.length≤c.length∧l.length≤k)
def elAddr (v:AVal) (i:Nat):AVal:=match v with
  | .slice (some r) _ _=>.ptr (some (r.add i))
  | _=>.none
section
variable {P:Program} {h:Heap} {v:AVal} {l:List Int} {t e:TypeId} {zs:List AVal}
theorem ints_length (l:List Int):(ints l).length=l.length:=by simp [ints]
theorem Ints.app {g:Heap} (hI:Ints h v l):Ints (h++g) v l:=by
  refine ⟨hI.1,?_⟩
  rcases hI.2 with h1|h1|⟨r,k,c,e,row,ro,h1,h2,h3⟩
  · exact .inl h1
  · exact .inr (.inl h1)
  · exact .inr (.inr ⟨r,k,c,e,row,ro,h1,by rw [List.getElem?_append_left (lt_of_get h2)];exact h2,h3⟩)
theorem Ints.len (hI:Ints h v l) (ht:elS P t=some (e,1,zs)):lenOpA P h t v=some (.int .i64 (l.length:Int)):=by
  simp only [lenOpA,ht]
  rcases hI.2 with ⟨rfl,rfl⟩|⟨rfl,rfl⟩|⟨r,k,c,e,row,ro,rfl,_⟩<;>rfl
theorem Ints.addr (hI:Ints h v l) (ht:elS P t=some (e,1,zs)) (ha:arT P t=.none) {i:Int} (h0:0≤i) (h1:i<l.length):indexAddrA P t v (.int .i64 i)=some (elAddr v i.toNat):=by
  rcases hI.2 with ⟨rfl,rfl⟩|⟨rfl,rfl⟩|⟨r,k,c,e,row,ro,rfl,_⟩
  · simp at h1;omega
  · simp at h1;omega
  · simp only [indexAddrA,ha,ht,h0,h1,and_self,if_true,Nat.mul_one,elAddr]
theorem Ints.load (hI:Ints h v l) (ht:tyA P t=some (false,1)) {i:Nat} {x:Int} (hx:l[i]?=some x):loadP P h t (elAddr v i)=some (.int .i64 x):=by
  have hi:=(List.getElem?_eq_some_iff.1 hx).1
  rcases hI.2 with ⟨rfl,rfl⟩|⟨rfl,rfl⟩|⟨r,k,c,e,row,ro,rfl,h2,h3,_⟩
  · simp at hi
  · simp at hi
  · have hg:c[r.off+i]?=some (.int .i64 x):=by
      have h4:((c.drop r.off).take l.length)[i]?=some (.int .i64 x):=by rw [h3,ints,List.getElem?_map,hx];rfl
      rw [List.getElem?_take,if_pos hi,List.getElem?_drop] at h4
      exact h4
    have hlt:=(List.getElem?_eq_some_iff.1 hg).1
    have h5:(c.drop (r.off+i)).take 1=[.int .i64 x]:=by
      rw [List.drop_eq_getElem_cons hlt]
      have:=(List.getElem?_eq_some_iff.1 hg).2
      rw [this];rfl
    simp only [loadP,elAddr,loadA,ht,Bool.false_eq_true,if_false,loadN,cellsAt,ARef.add,h2,if_true,show r.off+i+1≤c.length from hlt,h5,Option.bind_some,mkVal]
end
end Go.AM
namespace Go.AM
theorem renL_plain {f:Nat→Nat→Nat × Nat} {c:List AVal} (hc:plainL c=true):renL f c=c:=plainL_ren hc
theorem ints_plain:∀ (l:List Int),plainL (ints l)=true
  | []=>rfl
  | x :: xs=>by simp only [ints,List.map_cons,plainL,AVal.plain,Bool.true_and];exact ints_plain xs
theorem ints_scalar (l:List Int):(ints l).all AVal.scalar=true:=by simp [ints,AVal.scalar]
theorem ints_bare (l:List Int):(ints l).all AVal.bare=true:=by simp [ints,AVal.bare]
section
variable {h T:Heap} {v:AVal} {c:List AVal} {e:TypeId} {row ro:Bool} {j ver:Nat}
theorem newId_one {n j u:Nat}:newId n [n+j] (n+j) u=(n,0):=by
  unfold newId
  rw [if_neg (by omega)]
  simp
theorem newId_lt {n i u:Nat} {ids:List Nat} (hi:i<n):newId n ids i u=(i,u):=by simp [newId,hi]
theorem compact_one (hv:v.refs=[(h.length+j,ver)]) (hb:T[j]?=some ⟨.cells c e row ro,ver⟩) (hc:plainL c=true) :
    compact h.length v (h++T)=some (v.ren (newId h.length [h.length+j]),h++[⟨.cells c e row ro,0⟩]):=by
  have hget:(h++T)[h.length+j]?=some ⟨.cells c e row ro,ver⟩:=by
    rw [List.getElem?_append_right (by omega),Nat.add_sub_cancel_left];exact hb
  have hr:reach (h++T) h.length 64 [h.length+j] []=[h.length+j]:=by
    have hn:¬ (h.length+j<h.length ∨ ([]:List Nat).contains (h.length+j)=true):=by simp
    show reach (h++T) h.length (63+1) [h.length+j] []=_
    rw [reach,if_neg hn,hget]
    simp only [Option.map_some,ABody.refs,plainL_refs hc,List.map_nil,Option.getD_some,List.append_nil,List.nil_append]
    rfl
  unfold compact
  rw [hv]
  simp only [List.map_cons,List.map_nil]
  rw [hr]
  unfold compactBy
  rw [if_pos]
  · simp only [List.take_left,List.map_cons,List.map_nil,hget,ABody.ren,renL_plain hc]
  · refine ⟨?_,by simp,by simp,?_⟩
    · rw [hv]
      simp only [List.all_cons,List.all_nil,keptRef,hget,Option.map_some,List.contains_cons,List.contains_nil,beq_self_eq_true,Bool.true_or,Bool.or_true,Bool.and_self]
    · simp only [List.all_cons,List.all_nil,Bool.and_true,hget,ABody.isLoop,ABody.refs,plainL_refs hc,Bool.not_false,Bool.and_self,decide_eq_true_eq,Nat.le_add_right]
end
def newV (n:Nat) (l:List Int):AVal:=match l with|[]=>.emp|_ :: _=>.slice (some ⟨n,0,0⟩) l.length l.length
def newH (l:List Int):Heap:=match l with|[]=>[]|_ :: _=>[⟨.cells (ints l) 3 true false,0⟩]
def Small (l:List Int):Prop:=l.length<2 ^ 30∧∀ x ∈ l,-9223372036854775808≤x∧x<9223372036854775808
theorem newV_ints {h:Heap} {l:List Int} (hl:Small l):Ints (h++newH l) (newV h.length l) l:=by
  refine ⟨⟨Nat.lt_of_lt_of_le hl.1 (by decide),hl.2⟩,?_⟩
  cases l with
  | nil=>exact .inr (.inl ⟨rfl,rfl⟩)
  | cons x xs =>
    refine .inr (.inr ⟨⟨h.length,0,0⟩,xs.length+1,ints (x :: xs),3,true,false,rfl,by simp [newH],?_,by simp [ints_length],by simp⟩)
    simp only [List.drop_zero]
    rw [List.take_of_length_le (by rw [ints_length];exact Nat.le_refl _)]
section
variable {P:Program} {h:Heap} {v:AVal} {l:List Int} {t:TypeId} {zs:List AVal} {base:Nat}
theorem Ints.lenA' (hI:Ints h v l):lenA 1 v=some l.length:=by
  rcases hI.2 with ⟨rfl,rfl⟩|⟨rfl,rfl⟩|⟨r,k,c,e,row,ro,rfl,_⟩<;>rfl
theorem Ints.firstN' (hI:Ints h v l) {n:Nat} (hn:n=l.length):firstN h 1 n v=some (ints l):=by
  subst hn
  rcases hI.2 with ⟨rfl,rfl⟩|⟨rfl,rfl⟩|⟨r,k,c,e,row,ro,rfl,h2,h3,hlen,_⟩
  · rfl
  · rfl
  · simp only [firstN,loadN,cellsAt,h2,if_true,Nat.mul_one,hlen,h3]
theorem append_emp (hI:Ints h v l) (hs:l.length<2 ^ 31) (ht:elS P t=some (3,1,zs)):appendA P base h t .emp v=some (newV h.length l,h++newH l):=by
  have hs':l.length<2147483648:=hs
  simp only [appendA,ht,hI.lenA',hI.firstN' rfl,ints_scalar,if_true]
  cases l with
  | nil=>simp [newV,newH]
  | cons x xs =>
    rw [if_neg (by simp),if_pos hs]
    rfl
theorem newV_nil {n:Nat}:newV n []=.emp:=rfl
theorem newH_nil:newH []=[]:=rfl
def nilB:AVal→Bool
  | .slice .none _ _=>true
  | _=>false
theorem Ints.eqnil (hI:Ints h v l) {e:TypeId} (ht:P.underlying t=some (.slice e)):binA P .eql t v (.slice .none 0 0)=some (.bool (nilB v)):=by
  rcases hI.2 with ⟨rfl,rfl⟩|⟨rfl,rfl⟩|⟨r,k,c,e,row,ro,rfl,_⟩<;>simp [binA,eqT,eqDepth,ht,nilS,nilB]
theorem Ints.nilB_nil (hI:Ints h v l) (hn:nilB v=true):v=.slice .none 0 0∧l=[]:=by
  rcases hI.2 with ⟨rfl,rfl⟩|⟨rfl,rfl⟩|⟨r,k,c,e,row,ro,rfl,_⟩
  · exact ⟨rfl,rfl⟩
  · simp [nilB] at hn
  · simp [nilB] at hn
def cloneV (v:AVal) (n:Nat) (l:List Int):AVal:=if nilB v=true then .slice .none 0 0 else newV n l
def cloneH (v:AVal) (l:List Int):Heap:=if nilB v=true then [] else newH l
theorem cloneV_ints (hI:Ints h v l) (hl:Small l):Ints (h++cloneH v l) (cloneV v h.length l) l:=by
  unfold cloneH cloneV
  split
  · rename_i hn
    obtain ⟨rfl,rfl⟩:=hI.nilB_nil hn
    rw [List.append_nil];exact hI
  · exact newV_ints hl
theorem bs_emp {lit:Bool} {e:TypeId} {z:Nat} (ht:elS P t=some (e,z,zs)):bsA P lit h t 0 []=some (.emp,h):=by
  simp [bsA,rowOf,ht,fillA]
theorem newV_cons {n:Nat} {x:Int} {xs:List Int}:newV n (x :: xs)=.slice (some ⟨n,0,0⟩) (xs.length+1) (xs.length+1):=rfl
theorem newH_cons {x:Int} {xs:List Int}:newH (x :: xs)=[⟨.cells (ints (x :: xs)) 3 true false,0⟩]:=rfl
theorem fin_row {T:Heap} {j ver n k:Nat} {c:List AVal} {row ro:Bool} {e:TypeId} {r:AVal} {h':Heap} (hk:k ≠ 0) (hb:T[j]?=some ⟨.cells c e row ro,ver⟩) (hc:plainL c=true)
    (hr:r=.slice (some ⟨h.length,0,0⟩) n k) (hh:h'=h++[⟨.cells c e row ro,0⟩]):compact h.length (.slice (some ⟨h.length+j,ver,0⟩) n k) (h++T)=some (r,h'):=by
  rw [compact_one (v:=.slice (some ⟨h.length+j,ver,0⟩) n k) (by simp [AVal.refs,hk]) hb hc,hr,hh]
  simp only [AVal.ren,newId_one]
end
end Go.AM
namespace Go.AM
section
variable {P:Program} {h A B:Heap} {b x:ABlk} {i id ver off base:Nat} {c vs:List AVal} {e t:TypeId} {row ro:Bool}
theorem get_lt (hi:i<A.length):(A++B)[i]?=A[i]?:=List.getElem?_append_left hi
theorem get_eq (hi:i=A.length):(A++[b])[i]?=some b:=by subst hi;simp
theorem set_lt (hi:i<A.length):(A++B).set i x=A.set i x++B:=List.set_append_left _ _ hi
theorem set_eq (hi:i=A.length):(A++[b]).set i x=A++[x]:=by subst hi;simp
def ldB (q:Option (Bool × Nat)) (b:Option ABlk) (ver off:Nat):Option AVal :=
  match b,q with
  | some ⟨.cells c _ _ _,v⟩,some (ag,z)=>if v=ver then (if ag=true then (if off+z≤c.length then some (.agg ((c.drop off).take z)) else .none) else c[off]?) else .none
  | _,_=>.none
theorem load_eq:loadP P h t (.ptr (some ⟨id,ver,off⟩))=ldB (tyA P t) (h[id]?) ver off:=by
  simp only [loadP,loadA,ldB]
  cases hq:tyA P t with
  | none=>cases h[id]? with
    | none=>rfl
    | some b=>obtain ⟨bd,v⟩:=b;cases bd<;>rfl
  | some q =>
    obtain ⟨ag,z⟩:=q
    simp only [loadN,cellsAt]
    cases hb:h[id]? with
    | none=>rfl
    | some b =>
      obtain ⟨bd,v⟩:=b
      cases bd with
      | cells c e row ro =>
        simp only
        by_cases hv:v=ver
        · rw [if_pos hv,if_pos hv]
          simp only
          cases ag with
          | true =>
            simp only [if_true]
            by_cases hl:off+z≤c.length
            · rw [if_pos hl,if_pos hl];rfl
            · rw [if_neg hl,if_neg hl];rfl
          | false =>
            simp only [Bool.false_eq_true,if_false]
            by_cases hl:off<c.length
            · rw [if_pos (show off+1≤c.length from hl),List.getElem?_eq_getElem hl,List.drop_eq_getElem_cons hl];rfl
            · rw [if_neg (show ¬ off+1≤c.length by omega),List.getElem?_eq_none (by omega)];rfl
        · rw [if_neg hv,if_neg hv];rfl
      | map es=>rfl
      | loop l=>rfl
theorem ldB_cell {z:Nat}:ldB (some (false,z)) (some ⟨.cells c e row ro,ver⟩) ver off=c[off]?:=by simp [ldB]
theorem ldB_agg {z:Nat} (hz:off+z≤c.length):ldB (some (true,z)) (some ⟨.cells c e row ro,ver⟩) ver off=some (.agg ((c.drop off).take z)):=by simp [ldB,hz]
def stQ (base id:Nat) (b:Option ABlk) (ver off:Nat) (vs:List AVal) (k:ABlk→Heap):Option Heap :=
  match b with
  | some ⟨.cells c e row false,v⟩=>if v=ver∧off+vs.length≤c.length∧vs.all AVal.scalar=true∧(base≤id ∨ vs.all AVal.bare=true) then some (k ⟨.cells (splice c off vs) e row false,v⟩) else .none
  | _=>.none
theorem store_eq:storeN base h ⟨id,ver,off⟩ vs=stQ base id (h[id]?) ver off vs (fun b=>h.set id b):=by
  simp only [storeN,stQ]
  cases hb:h[id]? with
  | none=>rfl
  | some b=>obtain ⟨bd,v⟩:=b;cases bd with
    | cells c e row ro=>cases ro<;>rfl
    | map es=>rfl
    | loop l=>rfl
theorem stQ_ok {k:ABlk→Heap} (h1:off+vs.length≤c.length) (h2:vs.all AVal.scalar=true) (h3:base≤id) :
    stQ base id (some ⟨.cells c e row false,ver⟩) ver off vs k=some (k ⟨.cells (splice c off vs) e row false,ver⟩):=by
  simp only [stQ]
  rw [if_pos ⟨trivial,h1,h2,.inl h3⟩]
theorem splice_nil:splice c off []=c:=rfl
theorem splice_cons {v:AVal}:splice c off (v :: vs)=splice (c.set off v) (off+1) vs:=rfl
def stP (P:Program) (base:Nat) (h:Heap) (t:TypeId) (a x:AVal):Option (AVal × Heap) :=
  match a with
  | .ptr (some r)=>if (tyA P t).map (·.2)=some x.cells.length then (storeN base h r x.cells).map fun h'=>(undefA,h') else .none
  | _=>.none
theorem stP_ptr {q:Bool} {z:Nat} {y:AVal} (hq:tyA P t=some (q,z)) (hz:z=y.cells.length):stP P base h t (.ptr (some ⟨id,ver,off⟩)) y=(stQ base id (h[id]?) ver off y.cells (fun b=>h.set id b)).map fun h'=>(undefA,h'):=by
  simp only [stP,hq,Option.map_some,hz,if_true,store_eq]
theorem STEP_store' {raw:FuncId→Bool} {ops:Array Oper} {chk:Bool} {fr:AFrame} {d:Option Tmp} {ty:TypeId} {pos:String} {af:Array Edge} {K:St→Prop} {a y:Operand} :
    STEP P raw base ops chk ⟨d,.store t a y,ty,pos,af,none⟩ ⟨fr,h⟩ K=bindp (stP P base h t (ev fr a) (ev fr y)) (fun v h'=>K ⟨put fr d v,h'⟩):=STEP_store
end
def One (v:AVal):Prop:=v.isN=false∧v.cells=[v]∧v.scalar=true
theorem One.int {k:IntKind} {n:Int}:One (.int k n):=⟨rfl,rfl,rfl⟩
theorem One.bool {b:Bool}:One (.bool b):=⟨rfl,rfl,rfl⟩
theorem Ints.one {h:Heap} {v:AVal} {l:List Int} (hI:Ints h v l):One v:=by
  rcases hI.2 with ⟨rfl,rfl⟩|⟨rfl,rfl⟩|⟨r,k,c,e,row,ro,rfl,_⟩<;>exact ⟨rfl,rfl,rfl⟩
section
variable {P:Program} {h:Heap} {t:TypeId}
theorem box_agg {cs:List AVal}:boxA h t (.agg cs)=some (.ptr (some ⟨h.length,0,0⟩),h++[⟨.cells cs t false false,0⟩]):=rfl
theorem box_one {v:AVal} (hv:One v):boxA h t v=some (.ptr (some ⟨h.length,0,0⟩),h++[⟨.cells [v] t false false,0⟩]):=by
  simp [boxA,hv.1,hv.2.1]
theorem fieldAddr_eq {f off z id ver o:Nat} {q:Bool} (hf:fld P t f=some (off,q,z)) (hz:z ≠ 0):fieldAddrA P t (.ptr (some ⟨id,ver,o⟩)) f=some (.ptr (some ⟨id,ver,o+off⟩)):=by
  simp [fieldAddrA,hf,hz,ARef.add]
theorem cells_agg {cs:List AVal}:AVal.cells (.agg cs)=cs:=rfl
section
variable {base id ver off:Nat} {a b c d x y z w:AVal} {cs:List AVal} {e:TypeId} {row:Bool} {k:ABlk→Heap} {u:Bool}
theorem stP_one (hq:tyA P t=some (u,1)) (hy:One y):stP P base h t (.ptr (some ⟨id,ver,off⟩)) y=(stQ base id (h[id]?) ver off [y] (fun b=>h.set id b)).map fun h'=>(undefA,h'):=by
  rw [stP_ptr hq (by rw [hy.2.1];rfl),hy.2.1]
end
end
end Go.AM
namespace Go.AM
theorem idxOf_map {n j:Nat}:∀ (js:List Nat),(js.map fun j=>n+j).idxOf (n+j)=js.idxOf j
  | []=>rfl
  | x :: xs=>by
    have e:(n+x == n+j)=(x == j):=by
      rw [Bool.eq_iff_iff,beq_iff_eq,beq_iff_eq]
      omega
    rw [List.map_cons,List.idxOf_cons,List.idxOf_cons,idxOf_map xs,e]
theorem newId_map {n j u:Nat} {js:List Nat}:newId n (js.map fun j=>n+j) (n+j) u=(n+js.idxOf j,0):=by
  unfold newId
  rw [if_neg (by omega),idxOf_map]
section
variable {P:Program} {raw:FuncId→Bool} {base:Nat} {K:St→Prop} {ops:Array Oper} {chk:Bool} {fr:AFrame} {h:Heap} {d:Option Tmp} {ty:TypeId} {pos:String} {af:Array Edge} {ts:Array TypeId} {x y:Operand}
theorem STEP_min:STEP P raw base ops chk ⟨d,.call ⟨.builtin .min,[x,y].toArray,ts⟩,ty,pos,af,none⟩ ⟨fr,h⟩ K=bindv (minmax false (ev fr x) [ev fr y]) (fun v=>K ⟨put fr d v,h⟩):=by
  rw [STEP_eff rfl]
  simp only [effA,List.map_cons,List.map_nil,builtinA]
  cases minmax false (ev fr x) [ev fr y] with
  | none=>simp [bindp,bindv]
  | some v =>
    simp only [Option.map_some,bindp_some,bindv_some]
    cases chk<;>simp only [Bool.false_and,Bool.true_and,extQ_false,isD,extQ_same]
theorem STEP_max:STEP P raw base ops chk ⟨d,.call ⟨.builtin .max,[x,y].toArray,ts⟩,ty,pos,af,none⟩ ⟨fr,h⟩ K=bindv (minmax true (ev fr x) [ev fr y]) (fun v=>K ⟨put fr d v,h⟩):=by
  rw [STEP_eff rfl]
  simp only [effA,List.map_cons,List.map_nil,builtinA]
  cases minmax true (ev fr x) [ev fr y] with
  | none=>simp [bindp,bindv]
  | some v =>
    simp only [Option.map_some,bindp_some,bindv_some]
    cases chk<;>simp only [Bool.false_and,Bool.true_and,extQ_false,isD,extQ_same]
theorem min_int {k:IntKind} {a b:Int}:minmax false (.int k a) [.int k b]=some (.int k (min a b)):=by
  simp only [minmax,Bool.false_eq_true,if_false]
  congr 2
  simp only [Int.min_def]
  split<;>split<;>omega
theorem max_int {k:IntKind} {a b:Int}:minmax true (.int k a) [.int k b]=some (.int k (max a b)):=by
  simp only [minmax,if_true]
  congr 2
  simp only [Int.max_def]
  split<;>split<;>omega
end
end Go.AM
