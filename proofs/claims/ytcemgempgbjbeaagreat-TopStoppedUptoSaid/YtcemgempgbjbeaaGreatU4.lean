/-
  The operations of a region, one by one, against the model's walk; regions in the text's order.
-/
import Derived.Test.YtcemgempgbjbeaaGreatU3
import Derived.OrdersIn
set_option linter.unusedSimpArgs false
set_option linter.unusedVariables false
namespace Go.AM
section
variable {P:Program} {F:Fence} {call:Caller} {base:Nat} {μ μ' μ'':Mu} {h h':Heap} {w w':World}
theorem Fresh.trans (H:HRel P μ h w) (hg:Grow base h h') (a:Fresh base μ h μ') (b:Fresh base μ' h' μ''):Fresh base μ h μ'':=by
 have first:∀ id v L,μ'.loc id v=some L→μ.loc id v=some L ∨ h.length≤id ∨ ∃ b,h[id]?=some b∧b.ver<v∧(base≤id ∨ ∃ M,μ.loc id b.ver=some M):=a
 intro id v L hL
 rcases b id v L hL with hL'|hlen|⟨b',hb',hlt,hM⟩
 ·exact first id v L hL'
 ·exact .inr (.inl (Nat.le_trans hg.1 hlen))
 ·rcases Nat.lt_or_ge id h.length with hi|hi
  ·have hb0:=List.getElem?_eq_getElem hi
   have hver:=hg.2.2.1 id _ b' hb0 hb'
   refine .inr (.inr ⟨_,hb0,Nat.lt_of_le_of_lt hver hlt,?_⟩)
   rcases hM with hM|⟨M,hM⟩
   ·exact .inl hM
   ·rcases first id b'.ver M hM with h1|h1|⟨b2,hb2,_,h1⟩
    ·obtain ⟨N,hN⟩:=H.cur id _ M _ h1 hb0
     exact .inr ⟨N,hN⟩
    ·omega
    ·rw [hb0] at hb2;cases hb2;exact h1
  ·exact .inr (.inl hi)
def NextOk (F:Fence) (P:Program) (w1:World) (R:Ending→World→Prop):Next→Prop
 | .enter f as=>CallsIn F 0 P f as w1 R
 | .round l f tmps assign body=>RoundIn F 0 P l f tmps assign body w1 R
 | .value V=>R (.returned V) w1
 | _=>False
def CallSound (P:Program) (F:Fence) (call:Caller):Prop :=
 ∀ {μ:Mu} {h:Heap} {w:World} {base:Nat} {v:AVal} {V:Value} {args:List AVal} {A:Array Value} {r:AVal} {h':Heap},base≤h.length→HRel P μ h w→VR μ v V→VRs μ args A.toList →
  call base v args h=some (r,h')→∃ d nxt w1,(Deferred.ofValue V A).run P w=.ok d w∧(invoke d.target d.args).run P w=.ok nxt w1 ∧
   NextOk F P w1 (fun e w''=>∃ X,e=.returned X∧Fine P base μ h w r h' X w'') nxt
def CallGrow (call:Caller):Prop:=∀ {base:Nat} {v:AVal} {args:List AVal} {h:Heap} {r:AVal} {h':Heap},base≤h.length→call base v args h=some (r,h')→Grow base h h'
theorem pure_op (hF:∀ f,F.fn f) {o:Oper} (H:readsH o.op=true→HRel P μ h w) {fr:AFrame} {a:Act} (hf:∀ t,VR μ (fr t) (a.tmps.getD t undef)) {v:AVal} (hv:pureA P fr h o.op=some v) (hp:isPure o.op=true)
  {next:Act→World→Prop} {Q:Exit→Act→World→Prop} (hn:∀ V,VR μ v V→next (a.put o.dst V) w):o.wpIn F 0 P a w next Q:=by
 obtain ⟨V,hrun,hV⟩:=pure_sound H hf hv hp
 refine ⟨fun f _=>hF f,?_⟩
 rw [Oper.semAt_eq _ _ _ (fun c hc=>by rw [hc] at hp;simp [isPure] at hp),hrun]
 exact hn V hV
theorem eff_op (hF:∀ f,F.fn f) (hd:F.depth=none) (hcall:CallSound P F call) (hb:base≤h.length) (H:HRel P μ h w) {fr:AFrame} {a:Act} (hf:∀ t,VR μ (fr t) (a.tmps.getD t undef))
  {lit:Bool} {o:Oper} {v:AVal} (hv:effA P call base lit fr h o.op=some (v,h'))
  {next:Act→World→Prop} {Q:Exit→Act→World→Prop} (hn:∀ V w',Fine P base μ h w v h' V w'→next (a.put o.dst V) w'):o.wpIn F 0 P a w next Q:=by
 refine ⟨fun f _=>hF f,?_⟩
 have nodefer:∀ c,o.op ≠ .defer c:=by
  intro c hc;rw [hc] at hv;simp [effA,memA] at hv
 rw [Oper.semAt_eq _ _ _ nodefer]
 by_cases hc:∃ c,o.op=.call c
 ·obtain ⟨c,hc⟩:=hc
  rw [hc] at hv
  simp only [effA] at hv
  have hargs:VRs μ (c.args.toList.map (ev fr)) (c.args.map a.eval).toList:=by
   have:=map_VRs hf c.args.toList
   simpa using this
  split at hv
  ·rename_i b hcal
   obtain ⟨V,w',h1,h2⟩:=builtinA_sound (type:=o.type) (consts:=c.args.map fun|.const _=>true|_=>false) H hv hargs
   have:(execOp a.eval o).run P w=.ok (.value V) w':=by
    simp only [execOp,hc,resolve,hcal,Sem.run_bind,Sem.run_pure,Result.andThen_ok,invoke]
    exact h1
   rw [this]
   exact hn V w' h2
  ·rename_i g hcal
   obtain ⟨d,nxt,w1,h1,h2,h3⟩:=hcall hb H (ev_VR hf g) hargs hv
   have:(execOp a.eval o).run P w=.ok nxt w1:=by
    simp only [execOp,hc,resolve,hcal,Sem.run_bind,h1,Result.andThen_ok]
    exact h2
   rw [this]
   cases nxt with
   | value V =>
    obtain ⟨X,he,hfine⟩:=h3
    cases he
    exact hn V w1 hfine
   | enter f as =>
    rw [Oper.uponIn_enter]
    refine ⟨fun hs=>(by rw [hd] at hs;cases hs),CallsIn.mono (R:=fun e w''=>∃ X,e=.returned X∧Fine P base μ h w v h' X w'') h3 ?_⟩
    intro e w'' hR
    obtain ⟨X,he,hfine⟩:=hR
    subst he
    exact hn X w'' hfine
   | round l f tmps assign body =>
    rw [Oper.uponIn_round]
    refine ⟨fun hs=>(by rw [hd] at hs;cases hs),RoundIn.mono (R:=fun e w''=>∃ X,e=.returned X∧Fine P base μ h w v h' X w'') h3 ?_⟩
    intro e w'' hR
    obtain ⟨X,he,hfine⟩:=hR
    subst he
    exact hn X w'' hfine
   | _=>exact h3.elim
  ·cases hv
 ·have hv':memA P base lit fr h o.op=some (v,h'):=by
   revert hv
   unfold effA
   split
   ·rename_i c hc';exact absurd ⟨c,hc'⟩ hc
   ·exact id
  obtain ⟨r,V,w',h1,h2,h3⟩:=memA_sound H hf hv'
  rw [h1]
  rcases h2 with rfl|⟨rfl,rfl⟩
  ·exact hn V w' h3
  ·exact hn _ w' h3
theorem quiet_op (hF:∀ f,F.fn f) {fr:AFrame} {a:Act} (hf:∀ t,VR μ (fr t) (a.tmps.getD t undef)) {lit:Bool} {o:Oper} {v:AVal} (hq:quietB P o.op=true) (hv:effA P call base lit fr h o.op=some (v,h'))
  {next:Act→World→Prop} {Q:Exit→Act→World→Prop} (hn:∀ V,VR μ v V→next (a.put o.dst V) w):o.wpIn F 0 P a w next Q:=by
 refine ⟨fun f _=>hF f,?_⟩
 have nodefer:∀ c,o.op ≠ .defer c:=by
  intro c hc;rw [hc] at hv;simp [effA,memA] at hv
 rw [Oper.semAt_eq _ _ _ nodefer]
 obtain ⟨c,hc⟩:∃ c,o.op=.call c:=by
  cases ho:o.op<;>(try (simp [quietB,ho] at hq;done))
  exact ⟨_,rfl⟩
 rw [hc] at hv hq
 simp only [effA] at hv
 have hargs:VRs μ (c.args.toList.map (ev fr)) (c.args.map a.eval).toList:=by
  have:=map_VRs hf c.args.toList
  simpa using this
 split at hv
 ·rename_i b hcal
  obtain ⟨V,h1,h2⟩:=quiet_sound (w:=w) (type:=o.type) (consts:=c.args.map fun|.const _=>true|_=>false) hq hcal hv hargs
  have:(execOp a.eval o).run P w=.ok (.value V) w:=by
   simp only [execOp,hc,resolve,hcal,Sem.run_bind,Sem.run_pure,Result.andThen_ok,invoke]
   exact h1
  rw [this]
  exact hn V h2
 ·rename_i g hcal
  simp [quietB,hcal] at hq
 ·cases hv
theorem guard_sound {ops:Array Oper} {fr:AFrame} {a:Act} (hf:∀ t,VR μ (fr t) (a.tmps.getD t undef)) {o:Oper} {b:Bool} (hg:guardA ops fr o.guard=some b):Region.wanted o (yielded ops a.tmps)=b:=by
 unfold Region.wanted
 unfold guardA at hg
 cases hgd:o.guard with
 | none=>rw [hgd] at hg;cases hg;rfl
 | some q =>
  obtain ⟨j,want⟩:=q
  rw [hgd] at hg
  simp only at hg ⊢
  unfold yielded
  cases hdst:(ops[j]?).bind (·.dst) with
  | none=>rw [hdst] at hg;cases hg
  | some d =>
   rw [hdst] at hg
   simp only [Option.bind_some] at hg ⊢
   have hd:=hf d
   have nn:a.tmps.getD d undef ≠ undef→a.tmps[d]?=some (a.tmps.getD d undef):=by
    intro hne
    rw [Array.getD_eq_getD_getElem?] at hne ⊢
    cases hc:a.tmps[d]? with
    | none=>rw [hc] at hne;exact absurd rfl hne
    | some x=>rfl
   split at hg
   ·rename_i bb hbb
    rw [hbb] at hd
    generalize hX:a.tmps.getD d undef=X at hd
    cases hd
    rw [nn (by rw [hX];intro e;cases e),hX]
    cases hg;cases bb<;>cases want<;>rfl
   ·rename_i l hl
    rw [hl] at hd
    generalize hX:a.tmps.getD d undef=X at hd
    cases hd
    rename_i A _ _
    cases hg
    have:a.tmps[d]?=none ∨ a.tmps[d]?=some (.tuple A):=by
     rw [Array.getD_eq_getD_getElem?] at hX
     cases hc:a.tmps[d]? with
     | none=>exact .inl rfl
     | some x=>rw [hc] at hX;simp at hX;rw [hX];exact .inr rfl
    rcases this with h|h<;>rw [h]<;>rfl
   ·cases hg
theorem put_size (a:Act) (d:Option Tmp) (V:Value):(a.put d V).tmps.size=a.tmps.size:=by cases d<;>simp [Act.put]
theorem put_defers (a:Act) (d:Option Tmp) (V:Value):(a.put d V).defers=a.defers:=by cases d<;>rfl
structure Reach (P:Program) (base:Nat) (μ:Mu) (h:Heap) (w:World) (a:Act) (s:St) (a':Act) (w':World) (μ':Mu):Prop where
 le:μ.le μ'
 fr:∀ t,VR μ' (s.fr t) (a'.tmps.getD t undef)
 rel:HRel P μ' s.h w'
 evo:Evo μ h w μ' s.h w'
 fresh:Fresh base μ h μ'
 grow:Grow base h s.h
 size:a'.tmps.size=a.tmps.size
 defers:a'.defers=a.defers
theorem Reach.refl {a:Act} {s:St} (H:HRel P μ s.h w) (hf:∀ t,VR μ (s.fr t) (a.tmps.getD t undef)):Reach P base μ s.h w a s a w μ :=
 ⟨.rfl,hf,H,.rfl,.rfl,.rfl,rfl,rfl⟩
theorem Reach.trans {a a' a'':Act} {s s':St} {w'':World} (H:HRel P μ h w) (x:Reach P base μ h w a s a' w' μ') (y:Reach P base μ' s.h w' a' s' a'' w'' μ''):Reach P base μ h w a s' a'' w'' μ'' :=
 ⟨x.le.trans y.le,y.fr,y.rel,x.evo.trans y.evo,x.fresh.trans H x.grow y.fresh,x.grow.trans y.grow,y.size.trans x.size,y.defers.trans x.defers⟩
theorem effA_grow (hc:CallGrow call) (hb:base≤h.length) {lit:Bool} {fr:AFrame} {o:Op} {v:AVal} (hv:effA P call base lit fr h o=some (v,h')):Grow base h h':=by
 unfold effA at hv
 split at hv
 ·split at hv
  ·exact builtinA_grow hb hv
  ·exact hc hb hv
  ·cases hv
 ·exact memA_grow hb hv
theorem stepOp_grow (hc:CallGrow call) {ops:Array Oper} {chk:Bool} {o:Oper} {s s':St} (hb:base≤s.h.length) (hv:stepOp P call base ops chk o s=some s'):Grow base s.h s'.h:=by
 unfold stepOp at hv
 split at hv
 ·split at hv
  ·split at hv
   ·cases hv;exact .rfl
   ·cases hv
  ·split at hv
   ·rename_i v h' he
    split at hv
    ·cases hv
    ·cases hv;exact effA_grow hc hb he
   ·cases hv
 ·cases hv;exact .rfl
 ·cases hv
theorem evOps_grow (hc:CallGrow call) {ops:Array Oper} {chk:Bool}:∀ {l:List Oper} {s s':St},base≤s.h.length→evOps P call base ops chk l s=some s'→Grow base s.h s'.h
 | [],s,s',hb,hv=>by cases hv;exact .rfl
 | o :: rest,s,s',hb,hv=>by
  simp only [evOps] at hv
  split at hv
  ·rename_i s1 h1
   have g:=stepOp_grow hc hb h1
   exact g.trans (evOps_grow hc (Nat.le_trans hb g.1) hv)
  ·cases hv
theorem stepOp_unchk {ops:Array Oper} {o:Oper} {s s':St} (hv:stepOp P call base ops true o s=some s'):stepOp P call base ops false o s=some s':=by
 unfold stepOp at hv ⊢
 split at hv
 ·rename_i hg
  split at hv
  ·rename_i hp
   rw [if_pos hp];exact hv
  ·rename_i hp
   rw [if_neg hp]
   split at hv
   ·rename_i v h' he
    split at hv
    ·cases hv
    ·simp only [Bool.false_eq_true,false_and,if_false];exact hv
   ·cases hv
 ·exact hv
 ·cases hv
theorem evOps_unchk {ops:Array Oper}:∀ {l:List Oper} {s s':St},evOps P call base ops true l s=some s'→evOps P call base ops false l s=some s'
 | [],_,_,hv=>hv
 | o :: rest,s,s',hv=>by
  simp only [evOps] at hv ⊢
  split at hv
  ·rename_i s1 h1
   rw [stepOp_unchk h1]
   exact evOps_unchk hv
  ·cases hv
theorem seq_region (hF:∀ f,F.fn f) (hd:F.depth=none) (hcall:CallSound P F call) (hg:CallGrow call) {ops:Array Oper} {chk:Bool} {Q:Exit→Act→World→Prop} :
  ∀ (l:List Oper) (k:Nat),ops.toList.drop k=l→∀ {s s':St} {a:Act} {w:World} {μ:Mu},(∀ o ∈ l,tmpLt a.tmps.size o.dst=true)→base≤s.h.length→HRel P μ s.h w→(∀ t,VR μ (s.fr t) (a.tmps.getD t undef)) →
  evOps P call base ops chk l s=some s'→(∀ a' w' μ',Reach P base μ s.h w a s' a' w' μ'→Q .normal a' w')→wpOpsIn F 0 P ops Q (List.range' k l.length) a w
 | [],k,hk,s,s',a,w,μ,hlt,hb,H,hf,hv,hQ=>by
  cases hv
  exact hQ a w μ (.refl H hf)
 | o :: rest,k,hk,s,s',a,w,μ,hlt,hb,H,hf,hv,hQ=>by
  have hget:ops[k]?=some o:=by
   have:(ops.toList.drop k)[0]?=some o:=by rw [hk];rfl
   rw [List.getElem?_drop] at this
   simpa using this
  have hrest:ops.toList.drop (k+1)=rest:=by
   rw [← List.drop_drop,hk];rfl
  simp only [evOps] at hv
  cases hs:stepOp P call base ops chk o s with
  | none=>rw [hs] at hv;cases hv
  | some s1 =>
   rw [hs] at hv
   simp only at hv
   have gr:=stepOp_grow hg hb hs
   have go:∀ {a1:Act} {w1:World} {μ1:Mu},Reach P base μ s.h w a s1 a1 w1 μ1→wpOpsIn F 0 P ops Q (List.range' (k+1) rest.length) a1 w1:=by
    intro a1 w1 μ1 R
    exact seq_region hF hd hcall hg rest (k+1) hrest (fun x hx=>by rw [R.size];exact hlt x (by simp [hx])) (Nat.le_trans hb gr.1) R.rel R.fr hv fun a' w' μ' R'=>hQ a' w' μ' (R.trans H R')
   have hod:∀ d',o.dst=some d'→d'<a.tmps.size:=by
    intro d' hd'
    have:=hlt o (by simp)
    rw [hd'] at this
    simpa [tmpLt] using this
   simp only [List.length_cons,List.range'_succ,wpOpsIn,hget]
   unfold stepOp at hs
   split at hs
   ·rename_i hgd
    rw [guard_sound hf hgd,if_pos rfl]
    split at hs
    ·rename_i hp
     split at hs
     ·rename_i v hv'
      cases hs
      refine pure_op hF (fun _=>H) hf hv' hp fun V hV=>go ⟨.rfl,put_VR hf hV hod,H,.rfl,.rfl,.rfl,put_size _ _ _,put_defers _ _ _⟩
     ·cases hs
    ·split at hs
     ·rename_i v h' he
      split at hs
      ·cases hs
      ·cases hs
       refine eff_op hF hd hcall hb H hf he fun V w' hfine=>?_
       obtain ⟨μ',h1,h2,h3,h4,h5⟩:=hfine
       exact go ⟨h1,put_VR (fun t=>(hf t).mono h1) h2 hod,h3,h4,h5,gr,put_size _ _ _,put_defers _ _ _⟩
     ·cases hs
   ·rename_i hgd
    cases hs
    rw [guard_sound hf hgd,if_neg (by simp)]
    exact ⟨fun f _=>hF f,go ⟨.rfl,put_VR hf VR_undef hod,H,.rfl,.rfl,.rfl,put_size _ _ _,put_defers _ _ _⟩⟩
   ·cases hs
end
end Go.AM
namespace Go.AM
def Mu.low (μ:Mu) (n:Nat):Mu:={ μ with loc:=fun id v=>if id<n then μ.loc id v else .none }
def Mu.join (n:Nat) (ν μ:Mu):Mu:={ loc:=fun id v=>if id<n then ν.loc id v else μ.loc id v,anon:=ν.anon }
theorem Mu.low_le (μ:Mu) (n:Nat):(μ.low n).le μ:=⟨fun id v L h=>by (simp only [Mu.low] at h;split at h<;>first|exact h|cases h),fun _ _ h=>h⟩
theorem Mu.low_mono {μ μ':Mu} {n m:Nat} (h:μ.le μ') (hn:n≤m):(μ.low n).le (μ'.low m):=by
 refine ⟨fun id v L hL=>?_,fun b l hl=>h.anon b l hl⟩
 simp only [Mu.low] at hL ⊢
 split at hL
 ·rw [if_pos (by omega)];exact h.loc _ _ _ hL
 ·cases hL
theorem Mu.low_low (μ:Mu) {n m:Nat} (h:n≤m):(μ.low m).low n=μ.low n:=by
 simp only [Mu.low,Mu.mk.injEq,and_true]
 funext id v
 split
 ·rw [if_pos (by omega)]
 ·rfl
theorem Mu.low_join (ν μ:Mu) {n m:Nat} (h:m≤n):(Mu.join n ν μ).low m=ν.low m:=by
 simp only [Mu.low,Mu.join,Mu.mk.injEq,and_true]
 funext id v
 split
 ·rw [if_pos (by omega)]
 ·rfl
theorem Mu.join_low (ν μ:Mu) {n m:Nat} (h:n≤m):(Mu.join n ν μ).low m=Mu.join n ν (μ.low m):=by
 simp only [Mu.low,Mu.join,Mu.mk.injEq,and_true]
 funext id v
 by_cases h1:id<n
 ·rw [if_pos h1,if_pos h1,if_pos (by omega)]
 ·rw [if_neg h1,if_neg h1]
section
variable {P:Program} {base:Nat} {μ μ0 μ1 ν:Mu} {w w' w0 w1:World}
theorem HRel.low_self {h:Heap} (H:HRel P μ h w):μ.low h.length=μ:=by
 cases μ with
 | mk loc anon =>
  simp only [Mu.low,Mu.mk.injEq,and_true]
  funext id v
  split
  ·rfl
  ·rename_i hi
   exact (H.none_of_len (v:=v) (Nat.le_of_not_lt hi)).symm
theorem HRel.cut {h t:Heap} (H0:HRel P μ0 h w0) (H1:HRel P μ1 (h++t) w1) (hd:∀ id v L,id<h.length→μ1.loc id v=some L→∃ M,μ0.loc id v=some M):HRel P (μ1.low h.length) h w1:=by
 have get:∀ {i:Nat} {b:ABlk},h[i]?=some b→(h++t)[i]?=some b:=fun hb=>by rw [List.getElem?_append_left (lt_of_get hb)];exact hb
 have old:∀ {id v:Nat} {L:Loc},(μ1.low h.length).loc id v=some L→id<h.length∧μ1.loc id v=some L:=by
  intro id v L hL
  simp only [Mu.low] at hL
  split at hL
  ·rename_i hi;exact ⟨hi,hL⟩
  ·cases hL
 have new:∀ {id v:Nat} {L:Loc},id<h.length→μ1.loc id v=some L→(μ1.low h.length).loc id v=some L:=fun hi hL=>by simp only [Mu.low];rw [if_pos hi];exact hL
 have lt0:∀ {r:Nat × Nat},(∃ L,μ0.loc r.1 r.2=some L)→r.1<h.length:=by
  rintro r ⟨L,hL⟩
  obtain ⟨b,hb,_⟩:=H0.dom _ _ L hL
  exact lt_of_get hb
 have refs0:∀ {x:AVal} {X:Value},VR μ0 x X→∀ r ∈ x.refs,r.1<h.length:=fun hx r hr=>lt0 (hx.refs_dom H0.adom r hr)
 have keep:∀ {x:AVal} {X:Value},VR μ1 x X→(∀ r ∈ x.refs,r.1<h.length)→VR (μ1.low h.length) x X:=fun hx hr=>hx.keep (base:=h.length) (fun id v L hi hL=>new hi hL) (fun b l hb _=>hb) hr
 refine ⟨fun id v L hL=>?_,fun id b L hb hL=>?_,fun i j b c L M hij hb hc hL hM hwr=>?_,fun id v L b hL hb=>?_,fun b l hb=>?_,fun b l hb=>H1.adom b l hb⟩
 ·obtain ⟨hi,hL⟩:=old hL
  obtain ⟨b,hb,h2,h3⟩:=H1.dom id v L hL
  rw [List.getElem?_append_left hi] at hb
  exact ⟨b,hb,h2,h3⟩
 ·obtain ⟨hi,hL⟩:=old hL
  obtain ⟨M,hM⟩:=hd id _ L hi hL
  have B0:=H0.blk id b M hb hM
  have B1:=H1.blk id b L (get hb) hL
  cases hbody:b.body<;>rw [hbody] at B0 B1
  ·obtain ⟨C0,T0,fz0,a1,a2,a3,a4,_,_⟩:=B0
   obtain ⟨C,T,fz,k1,k2,k3,k4,k5,k6⟩:=B1
   refine ⟨C,T,fz,k1,k2,k3,fun i x y hx hy=>keep (k4 i x y hx hy) ?_,k5,k6⟩
   have hlt:i<_:=(List.getElem?_eq_some_iff.1 hx).1
   exact refs0 (a4 i x C0[M.base+i] hx (Array.getElem?_eq_getElem (by omega)))
  ·obtain ⟨E0,cl0,a1,a2,_⟩:=B0
   obtain ⟨E,cl,k1,k2,k3⟩:=B1
   refine ⟨E,cl,k1,⟨k2.1,fun i k v e hk he=>?_⟩,k3⟩
   obtain ⟨q1,q2,q3⟩:=k2.2 i k v e hk he
   have hlt:i<_:=(List.getElem?_eq_some_iff.1 hk).1
   obtain ⟨p1,p2,_⟩:=a2.2 i k v _ hk (Array.getElem?_eq_getElem (a2.1 ▸ hlt))
   exact ⟨keep q1 (refs0 p1),keep q2 (refs0 p2),q3⟩
  ·obtain ⟨l0,a1,a2,a3,a4,a5,a6,a7,_⟩:=B0
   obtain ⟨l,k1,k2,k3,k4,k5,k6,k7,k8⟩:=B1
   exact ⟨l,k1,k2,k3,k4,k5,k6,fun t=>keep (k7 t) (refs0 (a7 t)),k8⟩
 ·exact H1.disj i j b c L M hij (get hb) (get hc) (old hL).2 (old hM).2 hwr
 ·obtain ⟨hi,hL⟩:=old hL
  obtain ⟨M,hM⟩:=H1.cur id v L b hL (get hb)
  exact ⟨M,new hi hM⟩
 ·obtain ⟨⟨C,e,fz,h1,h2⟩,h3⟩:=H1.anon b l hb
  refine ⟨⟨C,e,fz,h1,h2.1,fun i x y hx hy=>keep (h2.2 i x y hx hy) fun r hr=>?_⟩,fun id k L hk hL hwr=>h3 id k L (get hk) (old hL).2 hwr⟩
  have:=mem_refsL (List.mem_of_getElem? hx) hr
  rw [H1.adom b l hb] at this;cases this
theorem HRel.glue {A A' f X:Heap} (H1:HRel P μ (A++f++X) w) (hun:∀ id v,A.length≤id→id<A.length+f.length→μ.loc id v=.none) (hle:(μ.low A.length).le ν) (HA:HRel P ν A' w')
  (hev:Evo (μ.low A.length) A w ν A' w') (hfr:Fresh base (μ.low A.length) A ν) (hg:Grow base A A') (hlen:A'.length=A.length+f.length) :
  μ.le (Mu.join A'.length ν μ)∧HRel P (Mu.join A'.length ν μ) (A'++X) w'∧Evo μ (A++f++X) w (Mu.join A'.length ν μ) (A'++X) w':=by
 have lo:∀ {id v:Nat},id<A'.length→(Mu.join A'.length ν μ).loc id v=ν.loc id v:=fun hi=>by simp only [Mu.join];rw [if_pos hi]
 have hi:∀ {id v:Nat},A'.length≤id→(Mu.join A'.length ν μ).loc id v=μ.loc id v:=fun hi=>by simp only [Mu.join];rw [if_neg (by omega)]
 have νdom:∀ {id v:Nat} {L:Loc},ν.loc id v=some L→id<A'.length:=fun hL=>by obtain ⟨b,hb,_⟩:=HA.dom _ _ _ hL;exact lt_of_get hb
 have leμ:μ.le (Mu.join A'.length ν μ):=by
  refine ⟨fun id v L hL=>?_,fun b l hb=>hle.anon b l hb⟩
  rcases Nat.lt_or_ge id A'.length with h|h
  ·rw [lo h]
   rcases Nat.lt_or_ge id A.length with h'|h'
   ·exact hle.loc id v L (by simp only [Mu.low];rw [if_pos h'];exact hL)
   ·rw [hun id v h' (by omega)] at hL;cases hL
  ·rw [hi h];exact hL
 have leν:ν.le (Mu.join A'.length ν μ):=⟨fun id v L hL=>by rw [lo (νdom hL)];exact hL,fun b l hb=>hb⟩
 have gA:∀ {i:Nat} {b:ABlk},i<A'.length→(A'++X)[i]?=some b→A'[i]?=some b:=fun h hb=>by rwa [List.getElem?_append_left h] at hb
 have gX:∀ {i:Nat} {b:ABlk},A'.length≤i→(A'++X)[i]?=some b→(A++f++X)[i]?=some b:=by
  intro i b h hb
  rw [List.getElem?_append_right h] at hb
  rw [List.getElem?_append_right (by simp;omega)]
  simpa [hlen] using hb
 have gB:∀ {i:Nat} {b:ABlk},A[i]?=some b→(A++f++X)[i]?=some b:=by
  intro i b hb
  rw [List.append_assoc,List.getElem?_append_left (lt_of_get hb)];exact hb
 have lowA:∀ {id v:Nat} {L:Loc},(μ.low A.length).loc id v=some L→μ.loc id v=some L:=fun hL=>(Mu.low_le _ _).loc _ _ _ hL
 -- a block above is no image of one below
 have notW:∀ {i:Nat} {b:ABlk} {L:Loc},A'.length≤i→(A'++X)[i]?=some b→μ.loc i b.ver=some L→¬ WImg (μ.low A.length) A L.blk:=by
  rintro i b L h hb hL ⟨id,k,M,hk,hM,hwr,he⟩
  refine H1.disj id i k b M L ?_ (gB hk) (gX h hb) (lowA hM) hL hwr he
  have:=lt_of_get hk;omega
 have kept:∀ {i:Nat} {b:ABlk} {L:Loc},A'.length≤i→(A'++X)[i]?=some b→μ.loc i b.ver=some L→w'.heap[L.blk]?=w.heap[L.blk]?∧¬ WImg ν A' L.blk∧L.blk<w.heap.size:=by
  intro i b L h hb hL
  obtain ⟨_,_,_,h3⟩:=H1.dom i _ L hL
  obtain ⟨k1,k2⟩:=hev.keep L.blk h3 (notW h hb hL)
  exact ⟨k1,k2,h3⟩
 -- what may not be written lay there before
 have ro:∀ {i:Nat} {b:ABlk} {L:Loc},A'[i]?=some b→ν.loc i b.ver=some L→b.body.wr=false→(A++f++X)[i]?=some b∧μ.loc i b.ver=some L:=by
  intro i b L hb hL hwr
  have hA:=hg.2.2.2 i b hb hwr
  refine ⟨gB hA,?_⟩
  rcases hfr i b.ver L hL with h|h|⟨c,hc,hv,_⟩
  ·exact lowA h
  ·have:=lt_of_get hA;omega
  ·rw [hA] at hc;cases hc;omega
 refine ⟨leμ,⟨fun id v L hL=>?_,fun id b L hb hL=>?_,fun i j b c L M hij hb hc hL hM hwr=>?_,fun id v L b hL hb=>?_,fun b l hb=>?_,fun b l hb=>HA.adom b l hb⟩,⟨hev.size,hev.os,hev.tape,hev.output,fun b hb hn=>?_,fun b l hb=>hev.anew b l hb⟩⟩
 ·rcases Nat.lt_or_ge id A'.length with h|h
  ·rw [lo h] at hL
   obtain ⟨b,h1,h2,h3⟩:=HA.dom id v L hL
   exact ⟨b,by rw [List.getElem?_append_left h];exact h1,h2,h3⟩
  ·rw [hi h] at hL
   obtain ⟨b,h1,h2,h3⟩:=H1.dom id v L hL
   refine ⟨b,?_,h2,Nat.lt_of_lt_of_le h3 hev.size⟩
   rw [List.getElem?_append_right (by simp;omega)] at h1
   rw [List.getElem?_append_right h]
   simpa [hlen] using h1
 ·rcases Nat.lt_or_ge id A'.length with h|h
  ·rw [lo h] at hL
   exact (HA.blk id b L (gA h hb) hL).step leν rfl
  ·rw [hi h] at hL
   exact (H1.blk id b L (gX h hb) hL).step leμ (kept h hb hL).1
 ·rcases Nat.lt_or_ge i A'.length with h|h<;>rcases Nat.lt_or_ge j A'.length with h'|h'
  ·rw [lo h] at hL;rw [lo h'] at hM
   exact HA.disj i j b c L M hij (gA h hb) (gA h' hc) hL hM hwr
  ·rw [lo h] at hL;rw [hi h'] at hM
   exact fun e=>(kept h' hc hM).2.1 ⟨i,b,L,gA h hb,hL,hwr,e⟩
  ·rw [hi h] at hL;rw [lo h'] at hM
   cases hcw:c.body.wr with
   | true=>exact fun e=>(kept h hb hL).2.1 ⟨j,c,M,gA h' hc,hM,hcw,e.symm⟩
   | false =>
    obtain ⟨r1,r2⟩:=ro (gA h' hc) hM hcw
    exact H1.disj i j b c L M hij (gX h hb) r1 hL r2 hwr
  ·rw [hi h] at hL;rw [hi h'] at hM
   exact H1.disj i j b c L M hij (gX h hb) (gX h' hc) hL hM hwr
 ·rcases Nat.lt_or_ge id A'.length with h|h
  ·rw [lo h] at hL
   obtain ⟨M,hM⟩:=HA.cur id v L b hL (gA h hb)
   exact ⟨M,by rw [lo h];exact hM⟩
  ·rw [hi h] at hL
   obtain ⟨M,hM⟩:=H1.cur id v L b hL (gX h hb)
   exact ⟨M,by rw [hi h];exact hM⟩
 ·obtain ⟨⟨C,e,fz,h1,h2⟩,h3⟩:=HA.anon b l hb
  refine ⟨⟨C,e,fz,h1,h2.mono leν⟩,fun id k L hk hL hwr=>?_⟩
  rcases Nat.lt_or_ge id A'.length with h|h
  ·rw [lo h] at hL;exact h3 id k L (gA h hk) hL hwr
  ·rw [hi h] at hL
   rcases hev.anew b l hb with hb'|hb'
   ·exact (H1.anon b l hb').2 id k L (gX h hk) hL hwr
   ·have:=(kept h hk hL).2.2;omega
 ·have hn':¬ WImg (μ.low A.length) A b:=by
   rintro ⟨id,k,L,hk,hL,hwr,he⟩
   exact hn ⟨id,k,L,gB hk,lowA hL,hwr,he⟩
  obtain ⟨k1,k2⟩:=hev.keep b hb hn'
  refine ⟨k1,?_⟩
  rintro ⟨id,k,L,hk,hL,hwr,he⟩
  rcases Nat.lt_or_ge id A'.length with h|h
  ·rw [lo h] at hL;exact k2 ⟨id,k,L,gA h hk,hL,hwr,he⟩
  ·rw [hi h] at hL;exact hn ⟨id,k,L,gX h hk,hL,hwr,he⟩
end
section
variable {P:Program} {call:Caller} {base:Nat} {h:Heap} {fr fr':AFrame}
theorem ev_congr {xs:List Operand} (hf:∀ t ∈ tmpsOf xs,fr t=fr' t) {x:Operand} (hx:x ∈ xs):ev fr x=ev fr' x:=by
 cases x with
 | tmp t=>exact hf t (List.mem_filterMap.2 ⟨_,hx,rfl⟩)
 | const v=>rfl
 | global g=>rfl
 | func f=>rfl
theorem map_congr' {xs ys:List Operand} (hf:∀ t ∈ tmpsOf xs,fr t=fr' t) (hs:∀ y ∈ ys,y ∈ xs):ys.map (ev fr)=ys.map (ev fr') :=
 List.map_congr_left fun y hy=>ev_congr hf (hs y hy)
theorem parts_congr {xs:List Operand} (hf:∀ t ∈ tmpsOf xs,fr t=fr' t) {ps:List (Nat × Operand)} (hs:∀ p ∈ ps,p.2 ∈ xs):(ps.map fun (i,x)=>(i,ev fr x))=ps.map fun (i,x)=>(i,ev fr' x) :=
 List.map_congr_left fun ⟨i,x⟩ hp=>by simp only;rw [ev_congr hf (hs _ hp)]
theorem opt_congr {xs:List Operand} (hf:∀ t ∈ tmpsOf xs,fr t=fr' t) {x:Option Operand} (hs:∀ y,x=some y→y ∈ xs):x.map (ev fr)=x.map (ev fr'):=by
 cases x with
 | none=>rfl
 | some y=>simp only [Option.map_some];rw [ev_congr hf (hs y rfl)]
theorem pureA_congr {o:Op} (hf:∀ t ∈ tmpsOf o.operands.toList,fr t=fr' t):pureA P fr h o=pureA P fr' h o:=by
 have E:∀ {x:Operand},x ∈ o.operands.toList→ev fr x=ev fr' x:=fun hx=>ev_congr hf hx
 cases o<;>simp only [pureA]<;>simp only [Op.operands] at E hf<;>(try rfl)<;>(try rw [E (by simp)])<;>(try rw [E (by simp)])<;>(try rw [E (by simp)])
 case makeFunc g first captured =>
  cases g<;>simp only<;>(try rfl)
  rw [map_congr' hf (ys:=first.toList) (by intro y hy;simp;exact .inl (by simpa using hy)),map_congr' hf (ys:=captured.toList) (by intro y hy;simp;exact .inr (by simpa using hy))]
 case slice t x lo hi mx =>
  rw [opt_congr hf (x:=lo) (by intro y hy;simp [hy]),opt_congr hf (x:=hi) (by intro y hy;simp [hy]),opt_congr hf (x:=mx) (by intro y hy;simp [hy])]
 case build t parts=>rw [parts_congr hf (ps:=parts.toList) (by intro p hp;simp;exact ⟨p.1,by simpa using hp⟩)]
theorem memA_congr {lit:Bool} {o:Op} (hf:∀ t ∈ tmpsOf o.operands.toList,fr t=fr' t):memA P base lit fr h o=memA P base lit fr' h o:=by
 have E:∀ {x:Operand},x ∈ o.operands.toList→ev fr x=ev fr' x:=fun hx=>ev_congr hf hx
 cases o<;>simp only [memA]<;>simp only [Op.operands] at E hf<;>(try rfl)<;>(try rw [E (by simp)])<;>(try rw [E (by simp)])<;>(try rw [E (by simp)])
 case buildSlice t n parts=>rw [parts_congr hf (ps:=parts.toList) (by intro p hp;simp;exact ⟨p.1,by simpa using hp⟩)]
 case makeMap t r=>cases r<;>rfl
theorem effA_congr {lit:Bool} {o:Op} (hf:∀ t ∈ tmpsOf o.operands.toList,fr t=fr' t):effA P call base lit fr h o=effA P call base lit fr' h o:=by
 unfold effA
 split
 ·rename_i c
  have hs:∀ y ∈ c.args.toList,y ∈ (Op.call c).operands.toList:=by
   intro y hy
   simp only [Op.operands,Call.operands]
   cases c.callee<;>simp<;>first|(right;simpa using hy)|(simpa using hy)
  rw [map_congr' hf hs]
  split
  ·rfl
  ·rename_i g hg
   rw [ev_congr hf (x:=g) (by simp [Op.operands,Call.operands,hg])]
  ·rfl
 ·exact memA_congr hf
theorem pureA_heap {h':Heap} {o:Op} (hr:readsH o=false):pureA P fr h o=pureA P fr h' o:=by
 cases o<;>first|rfl|(simp [readsH] at hr;done)|skip
 rename_i g _ _
 cases g<;>rfl
theorem loadN_app {t:Heap} {r:ARef} {n:Nat} {cs:List AVal} (hv:loadN h r n=some cs):loadN (h++t) r n=some cs:=by
 unfold loadN cellsAt at *
 cases hg:h[r.id]? with
 | none=>simp [hg] at hv
 | some b=>rw [List.getElem?_append_left (lt_of_get hg),hg];rw [hg] at hv;exact hv
theorem pureA_app {t:Heap} {o:Op} {v:AVal} (hv:pureA P fr h o=some v):pureA P fr (h++t) o=some v:=by
 cases hr:readsH o with
 | false=>rw [pureA_heap (h':=h) hr];exact hv
 | true =>
  cases o<;>simp [readsH] at hr
  case load ty a =>
   simp only [pureA] at hv ⊢
   split at hv
   ·rename_i r hr'
    unfold loadA at hv ⊢
    split at hv
    ·rename_i q z hq
     cases hl:loadN h r (if q=true then z else 1) with
     | none=>rw [hl] at hv;cases hv
     | some cs=>rw [hl] at hv;rw [loadN_app hl];exact hv
    ·cases hv
   ·cases hv
  case lookup ty x i ok =>
   simp only [pureA] at hv ⊢
   have he:∀ es,entriesA h (ev fr x)=some es→entriesA (h++t) (ev fr x)=some es:=by
    intro es hes
    unfold entriesA at hes ⊢
    split at hes
    ·exact hes
    ·rename_i r _
     cases hg:h[r]? with
     | none=>simp [hg] at hes
     | some b=>rw [List.getElem?_append_left (lt_of_get hg),hg];rw [hg] at hes;exact hes
    ·cases hes
   unfold lookupA at hv ⊢
   split at hv
   ·rename_i kt et es h1 h2
    rw [h1,he es h2]
    exact hv
   ·cases hv
theorem effA_len {lit:Bool} {o:Op} {v:AVal} {h':Heap} (hp:isPure o=false) (hE:isE o=false) (hD:isD o=false) (hv:effA P call base lit fr h o=some (v,h')) :
  ∃ t,h'=h++t∧∀ h2:Heap,h2.length=h.length→effA P call base lit fr h2 o=some (v,h2++t):=by
 unfold effA at hv ⊢
 cases o<;>simp only [] at hv ⊢<;>(try (simp [isPure] at hp;done))<;>(try (simp [isE] at hE;done))<;>(try (simp [memA] at hv;done))
 case alloc t =>
  simp only [memA] at hv ⊢
  cases hz:zc P t with
  | none=>simp [hz] at hv
  | some z=>simp [hz] at hv;obtain ⟨rfl,rfl⟩:=hv;exact ⟨_,rfl,fun h2 hl=>by simp [hl]⟩
 case box t x =>
  simp only [memA] at hv ⊢
  split at hv
  ·cases hv
  ·rename_i hn
   simp at hv;obtain ⟨rfl,rfl⟩:=hv;exact ⟨_,rfl,fun h2 hl=>by rw [if_neg hn];simp [hl]⟩
 case buildSlice t n parts =>
  simp only [memA] at hv ⊢
  split at hv
  ·rename_i e z cs hr
   split at hv
   ·rename_i h0;simp at hv;obtain ⟨rfl,rfl⟩:=hv;exact ⟨[],by simp,fun h2 hl=>by rw [if_pos h0];simp⟩
   ·rename_i h0
    split at hv
    ·rename_i h1;simp at hv;obtain ⟨rfl,rfl⟩:=hv;exact ⟨[],by simp,fun h2 hl=>by rw [if_neg h0,if_pos h1];simp⟩
    ·rename_i h1;simp at hv;obtain ⟨rfl,rfl⟩:=hv;exact ⟨_,rfl,fun h2 hl=>by rw [if_neg h0,if_neg h1];simp [hl]⟩
  ·cases hv
 case makeSlice t l c =>
  simp only [memA,makeSliceA] at hv ⊢
  split at hv
  ·rename_i e z zs l' c' h1 h2 h3
   split at hv
   ·rename_i h4
    split at hv
    ·rename_i h5;simp at hv;obtain ⟨rfl,rfl⟩:=hv;exact ⟨[],by simp,fun h2 hl=>by rw [if_pos h4,if_pos h5];simp⟩
    ·rename_i h5;simp at hv;obtain ⟨rfl,rfl⟩:=hv;exact ⟨_,rfl,fun h2 hl=>by rw [if_pos h4,if_neg h5];simp [hl]⟩
   ·cases hv
  ·cases hv
 case makeMap t r =>
  cases r with
  | some r=>simp [memA] at hv
  | none =>
   simp only [memA] at hv ⊢
   cases hm:mpT P t with
   | none=>simp [hm] at hv
   | some q=>simp [hm] at hv;obtain ⟨rfl,rfl⟩:=hv;exact ⟨_,rfl,fun h2 hl=>by simp [hl]⟩
 case call c =>
  exfalso
  simp only [isE,isD] at hE hD
  split at hD<;>simp_all
end
end Go.AM
namespace Go.AM
section
variable {ops:Array Oper} {wd:Bool} {q:Op→Bool}
def bstep (acc:Array Nat) (o:Oper):Array Nat :=
 acc.push (o.after.foldl (fun s e=>if Region.binds .any e then s ||| 2 ^ e.on ||| acc.getD e.on 0 else s) 0)
theorem inner_bit (acc:Array Nat) (i:Nat):∀ (es:List Edge) (s:Nat),(es.foldl (fun s e=>if Region.binds .any e then s ||| 2 ^ e.on ||| acc.getD e.on 0 else s) s).testBit i=true →
  s.testBit i=true ∨ ∃ e ∈ es,Region.binds .any e=true∧(i=e.on ∨ (acc.getD e.on 0).testBit i=true)
 | [],s,h=>.inl h
 | e :: es,s,h=>by
  rw [List.foldl_cons] at h
  rcases inner_bit acc i es _ h with h1|⟨e',h1,h2⟩
  ·by_cases hb:Region.binds .any e=true
   ·rw [if_pos hb] at h1
    simp only [Nat.testBit_or,Nat.testBit_two_pow,Bool.or_eq_true,decide_eq_true_eq] at h1
    rcases h1 with (h1|h1)|h1
    ·exact .inl h1
    ·exact .inr ⟨e,by simp,hb,.inl h1.symm⟩
    ·exact .inr ⟨e,by simp,hb,.inr h1⟩
   ·rw [if_neg hb] at h1;exact .inl h1
  ·exact .inr ⟨e',by simp [h1],h2⟩
theorem bfold_size:∀ (l:List Oper) (acc:Array Nat),(l.foldl bstep acc).size=acc.size+l.length
 | [],acc=>by simp
 | o :: l,acc=>by rw [List.foldl_cons,bfold_size l];simp [bstep];omega
theorem bfold_old:∀ (l:List Oper) (acc:Array Nat) (j:Nat),j<acc.size→(l.foldl bstep acc).getD j 0=acc.getD j 0
 | [],acc,j,h=>rfl
 | o :: l,acc,j,h=>by
  rw [List.foldl_cons,bfold_old l _ j (by simp [bstep];omega)]
  simp only [bstep,Array.getD_eq_getD_getElem?,Array.getElem?_push]
  rw [if_neg (by omega)]
theorem bfold_bit (i:Nat):∀ (l:List Oper) (acc:Array Nat) (j:Nat) (o:Oper),l[j]?=some o→((l.foldl bstep acc).getD (acc.size+j) 0).testBit i=true →
  ∃ e ∈ o.after,Region.binds .any e=true∧(i=e.on ∨ ((l.foldl bstep acc).getD e.on 0).testBit i=true)
 | [],acc,j,o,h,hb=>by simp at h
 | p :: l,acc,0,o,h,hb=>by
  simp at h;subst h
  rw [List.foldl_cons,bfold_old l _ _ (by simp [bstep])] at hb
  have:(bstep acc p).getD (acc.size+0) 0=p.after.toList.foldl (fun s e=>if Region.binds .any e then s ||| 2 ^ e.on ||| acc.getD e.on 0 else s) 0:=by
   simp [bstep,Array.getD_eq_getD_getElem?]
  rw [this] at hb
  rcases inner_bit acc i _ 0 hb with h1|⟨e,h1,h2,h3⟩
  ·simp at h1
  ·refine ⟨e,by simpa using h1,h2,h3.imp id fun h3=>?_⟩
   have hlt:e.on<acc.size:=by
    rcases Nat.lt_or_ge e.on acc.size with hl|hl
    ·exact hl
    ·rw [Array.getD_eq_getD_getElem?,Array.getElem?_eq_none hl] at h3;simp at h3
   rw [bfold_old _ _ _ (by simpa using hlt)];exact h3
 | p :: l,acc,j+1,o,h,hb=>by
  simp at h
  rw [List.foldl_cons] at hb ⊢
  have hs:acc.size+(j+1)=(bstep acc p).size+j:=by simp [bstep];omega
  rw [hs] at hb
  exact bfold_bit i l (bstep acc p) j o h hb
theorem befores_edge {j i:Nat} {o:Oper} (ho:ops[j]?=some o) (hb:befores ops j i=true):∃ e ∈ o.after,Region.binds .any e=true∧(i=e.on ∨ befores ops e.on i=true):=by
 have e0:Region.before ops=ops.toList.foldl bstep #[]:=by rw [Region.before,← Array.foldl_toList];rfl
 unfold befores at hb ⊢
 rw [e0] at hb ⊢
 have:=bfold_bit i ops.toList #[] j o (by simpa using ho) (by simpa using hb)
 exact this
theorem befores_get {j i:Nat} (hb:befores ops j i=true):∃ o,ops[j]?=some o:=by
 rcases Nat.lt_or_ge j ops.size with h|h
 ·exact ⟨_,Array.getElem?_eq_getElem h⟩
 ·exfalso
  have e0:Region.before ops=ops.toList.foldl bstep #[]:=by rw [Region.before,← Array.foldl_toList];rfl
  unfold befores at hb
  rw [e0,Array.getD_eq_getD_getElem?,Array.getElem?_eq_none (by rw [bfold_size];simpa using h)] at hb
  simp at hb
structure DrawOk (q:Op→Bool) (wd:Bool) (ops:Array Oper):Prop where
 pair:∀ i j,i<j→j<ops.size→pairOk q wd ops i j=true
 back:∀ j o,ops[j]?=some o→∀ e ∈ o.after,Region.binds .any e=true→e.on<j
theorem drawOk_spec (h:drawOk q wd ops=true):DrawOk q wd ops:=by
 have h':∀ j,j<ops.size→_:=fun j hj=>List.all_eq_true.1 h j (List.mem_range.2 hj)
 have lt:∀ {j o},ops[j]?=some o→j<ops.size∧ops.getD j default=o:=by
  intro j o ho
  obtain ⟨h1,h2⟩:=Array.getElem?_eq_some_iff.1 ho
  exact ⟨h1,by rw [Array.getD_eq_getD_getElem?,ho];rfl⟩
 refine ⟨fun i j hij hj=>?_,fun j o ho e he hb=>?_⟩
 ·have:=h' j hj
  simp only [Bool.and_eq_true] at this
  exact List.all_eq_true.1 this.1 i (List.mem_range.2 hij)
 ·have:=h' j (lt ho).1
  simp only [Bool.and_eq_true] at this
  rw [(lt ho).2] at this
  have:=Array.all_eq_true'.1 this.2 e he
  simp [hb] at this
  exact this
theorem befores_lt (D:DrawOk q wd ops):∀ (n j i:Nat),j≤n→befores ops j i=true→i<j:=by
 intro n
 induction n with
 | zero =>
  intro j i hj hb
  obtain ⟨o,ho⟩:=befores_get hb
  obtain ⟨e,he,hbd,h⟩:=befores_edge ho hb
  have:=D.back j o ho e he hbd;omega
 | succ n ih =>
  intro j i hj hb
  obtain ⟨o,ho⟩:=befores_get hb
  obtain ⟨e,he,hbd,h⟩:=befores_edge ho hb
  have hlt:=D.back j o ho e he hbd
  rcases h with rfl|h
  ·exact hlt
  ·exact Nat.lt_trans (ih e.on i (by omega) h) hlt
theorem befores_mem (D:DrawOk q wd ops) {S:Nat→Prop} (hS:∀ j,S j→∀ o,ops[j]?=some o→∀ e ∈ o.after,Region.binds .any e=true→S e.on) :
  ∀ (n j i:Nat),j≤n→(∀ o,ops[j]?=some o→∀ e ∈ o.after,Region.binds .any e=true→S e.on)→befores ops j i=true→S i:=by
 intro n
 induction n with
 | zero =>
  intro j i hj _ hb
  obtain ⟨o,ho⟩:=befores_get hb
  obtain ⟨e,he,hbd,h⟩:=befores_edge ho hb
  have:=D.back j o ho e he hbd;omega
 | succ n ih =>
  intro j i hj hd hb
  obtain ⟨o,ho⟩:=befores_get hb
  obtain ⟨e,he,hbd,h⟩:=befores_edge ho hb
  have hlt:=D.back j o ho e he hbd
  have hse:=hd o ho e he hbd
  rcases h with rfl|h
  ·exact hse
  ·exact ih e.on i (by omega) (fun o' ho'=>hS e.on hse o' ho') h
theorem pair_spec {i j:Nat} {o p:Oper} (ho:ops[i]?=some o) (hp:ops[j]?=some p) (h:pairOk q wd ops i j=true):befores ops j i=true ∨
  ((∀ t,o.dst=some t→p.dst ≠ some t∧t ∉ usesOf ops p)∧(∀ t,p.dst=some t→t ∉ usesOf ops o)∧(isEw wd o.op=true→isEw wd p.op=false∧(isDw wd p.op=false ∨ q p.op=true))∧(isEw wd p.op=true→isPure o.op=true ∨ q o.op=true)):=by
 have g1:ops.getD i default=o:=by rw [Array.getD_eq_getD_getElem?,ho];rfl
 have g2:ops.getD j default=p:=by rw [Array.getD_eq_getD_getElem?,hp];rfl
 simp only [pairOk,g1,g2,Bool.or_eq_true,Bool.and_eq_true] at h
 rcases h with h|⟨⟨⟨h1,h2⟩,h3⟩,h4⟩
 ·exact .inl h
 ·refine .inr ⟨fun t ht=>?_,fun t ht=>?_,fun hE=>?_,fun hE=>?_⟩
  ·rw [ht] at h1;simp at h1;exact h1
  ·rw [ht] at h2;simpa using h2
  ·simpa [hE] using h3
  ·simpa [hE] using h4
end
section
variable {P:Program} {F:Fence} {call:Caller} {base:Nat} {ops:Array Oper} {chk wd:Bool}
noncomputable def stN (P:Program) (call:Caller) (base:Nat) (ops:Array Oper) (chk:Bool):List Oper→St→Nat→St
 | _,s,0=>s
 | [],s,_+1=>s
 | o :: rest,s,k+1=>match stepOp P call base ops chk o s with
  | some s'=>stN P call base ops chk rest s' k
  | .none=>s
theorem stN_spec:∀ (l:List Oper) (s s':St),evOps P call base ops chk l s=some s' →
  (∀ k o,l[k]?=some o→stepOp P call base ops chk o (stN P call base ops chk l s k)=some (stN P call base ops chk l s (k+1)))∧stN P call base ops chk l s l.length=s' ∧
  ∀ k,k≤l.length→(trOps P call base ops chk l s)[k]?=some (stN P call base ops chk l s k)
 | [],s,s',h=>by
  cases h
  exact ⟨fun k o h=>by simp at h,rfl,fun k hk=>by simp at hk;subst hk;rfl⟩
 | o :: rest,s,s',h=>by
  simp only [evOps] at h
  cases hs:stepOp P call base ops chk o s with
  | none=>rw [hs] at h;cases h
  | some s1 =>
   rw [hs] at h
   obtain ⟨h1,h2,h3⟩:=stN_spec rest s1 s' h
   refine ⟨fun k p hk=>?_,?_,fun k hk=>?_⟩
   ·cases k with
    | zero=>simp at hk;subst hk;simp [stN,hs]
    | succ k=>simp only [stN,hs];exact h1 k p (by simpa using hk)
   ·simp only [List.length_cons,stN,hs];exact h2
   ·cases k with
    | zero=>simp [trOps,stN]
    | succ k=>simp only [trOps,stN,hs];simpa using h3 k (by simpa using hk)
structure Text (P:Program) (call:Caller) (base:Nat) (wd:Bool) (ops:Array Oper) (st:Nat→St):Prop where
 step:∀ k o,ops[k]?=some o→stepOp P call base ops (!wd) o (st k)=some (st (k+1))
 grow:∀ k,k<ops.size→Grow base (st k).h (st (k+1)).h
 base0:base≤(st 0).h.length
 loose:∀ i ∈ looseL wd ops,∃ o v,ops[i]?=some o∧(guardA ops (st i).fr o.guard=some true→(∀ j,j≤ops.size→(∀ m,m<ops.size→isEw wd (ops.getD m default).op=true→befores ops m i=true→j≤m)→pureA P (st i).fr (st j).h o.op=some v)∧v.refs.all (fun r=>decide (r.1<(st 0).h.length))=true)
variable {st:Nat→St}
def cr (st:Nat→St) (k:Nat):Heap:=(st (k+1)).h.drop (st k).h.length
def cat (st:Nat→St) (k:Nat):Nat→Heap
 | 0=>[]
 | m+1=>cr st k++cat st (k+1) m
abbrev len (st:Nat→St) (k:Nat):Nat:=(st k).h.length
theorem Text.len_step (T:Text P call base wd ops st) {k:Nat} (hk:k<ops.size):len st (k+1)=len st k+(cr st k).length:=by
 have:=(T.grow k hk).1
 simp [cr,len];omega
theorem Text.len_mono (T:Text P call base wd ops st) {k:Nat}:∀ {m:Nat},k≤m→m≤ops.size→len st k≤len st m:=by
 intro m hkm
 induction hkm with
 | refl=>intro _;exact Nat.le_refl _
 | @step m h ih=>intro hm;have h1:=T.len_step (k:=m) hm;have h2:=ih (by omega);show len st k≤len st (m+1);omega
theorem cat_succ:∀ (m k:Nat),cat st k (m+1)=cat st k m++cr st (k+m)
 | 0,k=>by simp [cat]
 | m+1,k=>by
  rw [cat,cat_succ m (k+1),cat]
  simp [Nat.add_assoc,Nat.add_comm 1 m]
theorem cat_add:∀ (m k m':Nat),cat st k (m+m')=cat st k m++cat st (k+m) m'
 | 0,k,m'=>by simp [cat]
 | m+1,k,m'=>by
  rw [Nat.add_right_comm,cat,cat_add m (k+1) m',cat]
  simp [Nat.add_assoc,Nat.add_comm 1 m]
theorem Text.cat_len (T:Text P call base wd ops st):∀ (m k:Nat),k+m≤ops.size→len st k+(cat st k m).length=len st (k+m)
 | 0,k,_=>by simp [cat]
 | m+1,k,h=>by
  have h1:=T.len_step (k:=k) (by omega)
  have h2:=T.cat_len m (k+1) (by omega)
  rw [cat,List.length_append]
  have:k+(m+1)=k+1+m:=by omega
  rw [this];omega
theorem isEw_false {o:Op} (h:isEw wd o=false):isE o=false:=by
 simp only [isEw,Bool.or_eq_false_iff] at h;exact h.1
theorem isDw_false {o:Op} (h:isEw wd o=false) (h':isDw wd o=false):isD o=false:=by
 simp only [isEw,Bool.or_eq_false_iff] at h
 simp only [isDw,h.2,Bool.not_false,Bool.and_true] at h'
 exact h'
theorem effA_builtin {lit:Bool} {fr:AFrame} {h:Heap} {o:Op} {v:AVal} {h':Heap} (hE:isE o=false) (hD:isD o=true) (hV:isV o=false) (hv:effA P call base lit fr h o=some (v,h')):h'=h:=by
 cases o<;>(try (simp [isD] at hD;done))
 rename_i c
 unfold effA at hv
 simp only at hv
 split at hv
 ·rename_i b hb
  unfold builtinA at hv
  split at hv
  all_goals first
   | (simp [isE,hb] at hE;done)
   | (simp only [Option.map_eq_some_iff,Prod.mk.injEq] at hv;obtain ⟨_,_,_,h⟩:=hv;exact h.symm)
   | (cases hv;done)
 ·rename_i g hg
  simp [isV,hg] at hV
 ·cases hv
theorem effA_quiet {lit:Bool} {fr:AFrame} {h:Heap} {o:Op} {v:AVal} {h':Heap} (hq:quietB P o=true) (hv:effA P call base lit fr h o=some (v,h')) :
  h'=h∧∀ h2:Heap,effA P call base lit fr h2 o=some (v,h2):=by
 cases o<;>(try (simp [quietB] at hq;done))
 rename_i c
 unfold effA at hv ⊢
 simp only at hv ⊢
 unfold quietB at hq
 simp only at hq
 split at hq
 ·rename_i t ts hb ht
  obtain ⟨q,hq⟩:=Option.isSome_iff_exists.1 hq
  simp only [hb] at hv ⊢
  rw [ht] at hv ⊢
  generalize c.args.toList.map (ev fr)=as at *
  match as,hv with
  | [x],hv =>
   simp only [builtinA,lenOpA,hq,Option.map_map,Option.map_eq_some_iff,Function.comp] at hv ⊢
   obtain ⟨n,h1,h2⟩:=hv
   cases h2
   exact ⟨rfl,fun h2=>⟨n,h1,rfl⟩⟩
  | [],hv=>simp [builtinA] at hv
  | _ :: _ :: _,hv=>simp [builtinA] at hv
 ·rename_i hb
  simp only [hb] at hv ⊢
  generalize c.args.toList.map (ev fr)=as at *
  match as,hv with
  | x :: xs,hv =>
   simp only [builtinA,Option.map_eq_some_iff] at hv ⊢
   obtain ⟨n,h1,h2⟩:=hv
   cases h2
   exact ⟨rfl,fun h2=>⟨_,h1,rfl⟩⟩
  | [],hv=>simp [builtinA] at hv
 ·rename_i hb
  simp only [hb] at hv ⊢
  generalize c.args.toList.map (ev fr)=as at *
  match as,hv with
  | x :: xs,hv =>
   simp only [builtinA,Option.map_eq_some_iff] at hv ⊢
   obtain ⟨n,h1,h2⟩:=hv
   cases h2
   exact ⟨rfl,fun h2=>⟨_,h1,rfl⟩⟩
  | [],hv=>simp [builtinA] at hv
 ·cases hq
theorem Text.ext (T:Text P call base wd ops st) {k:Nat} (o:Oper) (ho:ops[k]?=some o) (hE:isEw wd o.op=false):(st (k+1)).h=(st k).h++cr st k:=by
 have key:∃ t,(st (k+1)).h=(st k).h++t:=by
  have hs:=T.step k o ho
  unfold stepOp at hs
  split at hs
  ·split at hs
   ·split at hs
    ·simp only [Option.some.injEq] at hs;rw [← hs];exact ⟨[],by simp⟩
    ·cases hs
   ·rename_i hp
    split at hs
    ·rename_i v h' he
     split at hs
     ·cases hs
     ·rename_i hc
      simp only [Option.some.injEq] at hs
      rw [← hs]
      cases hD:isD o.op with
      | true =>
       cases wd with
       | false =>
        simp only [hD,Bool.not_false,true_and,Classical.not_not] at hc
        exact hc
       | true =>
        have hV:isV o.op=false:=by simp only [isEw,Bool.true_and,Bool.or_eq_false_iff] at hE;exact hE.2
        rw [effA_builtin (isEw_false hE) hD hV he]
        exact ⟨[],by simp⟩
      | false =>
       obtain ⟨t,rfl,_⟩:=effA_len (by simpa using hp) (isEw_false hE) hD he
       exact ⟨t,rfl⟩
    ·cases hs
  ·simp only [Option.some.injEq] at hs;rw [← hs];exact ⟨[],by simp⟩
  ·cases hs
 obtain ⟨t,ht⟩:=key
 rw [cr,ht];simp
theorem Text.ext' (T:Text P call base wd ops st) {b:Nat}:∀ (m:Nat),b+m≤ops.size→(∀ k o,b≤k→k<b+m→ops[k]?=some o→isEw wd o.op=false)→(st (b+m)).h=(st b).h++cat st b m
 | 0,_,_=>by simp [cat]
 | m+1,h,hE=>by
  have hget:ops[b+m]?=some ops[b+m]:=Array.getElem?_eq_getElem (by omega)
  rw [cat_succ,← List.append_assoc,← T.ext' m (by omega) (fun k o h1 h2=>hE k o h1 (by omega)),← T.ext _ hget (hE _ _ (by omega) (by omega) hget),Nat.add_assoc]
theorem Text.fr_keep (T:Text P call base wd ops st) {t:Tmp} {j:Nat}:∀ (m:Nat),j+m≤ops.size→(∀ k o,j≤k→k<j+m→ops[k]?=some o→o.dst ≠ some t)→(st (j+m)).fr t=(st j).fr t
 | 0,_,_=>rfl
 | m+1,h,hd=>by
  rw [← T.fr_keep m (by omega) (fun k o h1 h2=>hd k o h1 (by omega))]
  have hget:ops[j+m]?=some ops[j+m]:=Array.getElem?_eq_getElem (by omega)
  have hne:=hd _ _ (by omega) (by omega) hget
  have hs:=T.step _ _ hget
  have put_ne:∀ (fr:AFrame) (v:AVal),put fr ops[j+m].dst v t=fr t:=by
   intro fr v
   cases hd':ops[j+m].dst with
   | none=>rfl
   | some d =>
    simp only [put]
    rw [if_neg]
    intro e;subst e;exact hne hd'
  unfold stepOp at hs
  rw [← Nat.add_assoc]
  split at hs
  ·split at hs
   ·split at hs
    ·simp only [Option.some.injEq] at hs;rw [← hs];exact put_ne _ _
    ·cases hs
   ·split at hs
    ·split at hs
     ·cases hs
     ·simp only [Option.some.injEq] at hs;rw [← hs];exact put_ne _ _
    ·cases hs
  ·simp only [Option.some.injEq] at hs;rw [← hs];exact put_ne _ _
  ·cases hs
theorem Text.grow_to (T:Text P call base wd ops st):∀ (m:Nat),m≤ops.size→Grow base (st 0).h (st m).h
 | 0,_=>.rfl
 | m+1,h=>(T.grow_to m (by omega)).trans (T.grow m (by omega))
theorem Text.cr_wr (T:Text P call base wd ops st) {k:Nat} (hk:k<ops.size):∀ b ∈ cr st k,b.body.wr=true:=by
 intro b hb
 obtain ⟨i,hi,rfl⟩:=List.mem_iff_getElem.1 hb
 cases hw:(cr st k)[i].body.wr with
 | true=>rfl
 | false =>
  have h1:(st (k+1)).h[len st k+i]?=some (cr st k)[i]:=by
   have:=List.getElem?_eq_getElem hi
   simp only [cr,List.getElem?_drop] at this
   exact this
  have:=(T.grow k hk).2.2.2 _ _ h1 hw
  have:=lt_of_get this
  simp only [len] at this
  omega
theorem Text.cat_wr (T:Text P call base wd ops st):∀ (m k:Nat),k+m≤ops.size→∀ b ∈ cat st k m,b.body.wr=true
 | 0,k,_,b,hb=>by simp [cat] at hb
 | m+1,k,h,b,hb=>by
  simp only [cat,List.mem_append] at hb
  rcases hb with hb|hb
  ·exact T.cr_wr (by omega) b hb
  ·exact T.cat_wr m (k+1) (by omega) b hb
end
end Go.AM
