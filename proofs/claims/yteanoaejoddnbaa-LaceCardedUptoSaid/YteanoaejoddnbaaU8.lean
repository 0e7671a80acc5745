/-
  Ranges over functions; what is kept where blocks refer to what lay before.
-/
import Derived.Test.YteanoaejoddnbaaU7
set_option linter.unusedSimpArgs false
set_option linter.unusedVariables false
namespace Go.AM
def blkRefs (h:Heap) (i:Nat):List (Nat × Nat):=((h[i]?).map fun b=>b.body.refs).getD []
def rcost (h:Heap) (base:Nat) (ids:List Nat):Nat:=(ids.map fun i=>if i<base then 1 else 1+(blkRefs h i).length).sum
theorem rcost_low {h:Heap} {base:Nat}:∀ {l:List Nat},(∀ i ∈ l,i<base)→rcost h base l=l.length
 | [],_=>rfl
 | i :: l,hi=>by
  have ih:=rcost_low (h:=h) (l:=l) (fun j hj=>hi j (by simp [hj]))
  simp only [rcost,List.map_cons,List.sum_cons,if_pos (hi i (by simp)),List.length_cons] at ih ⊢
  omega
theorem rcost_app {h:Heap} {base:Nat} {a b:List Nat}:rcost h base (a++b)=rcost h base a+rcost h base b:=by simp [rcost,List.sum_append]
theorem reach_gen {h:Heap} {base:Nat}:∀ (n:Nat) (ids seen:List Nat),rcost h base ids<n→(∀ i ∈ ids,base≤i→∃ b,h[i]?=some b∧∀ r ∈ b.body.refs,r.1<base) →
  (seen++ids.filter (fun i=>decide (base≤i))).Nodup→reach h base n ids seen=seen++ids.filter (fun i=>decide (base≤i))
 | 0,_,_,hn,_,_=>by omega
 | n+1,[],seen,_,_,_=>by simp [reach]
 | n+1,i :: ids,seen,hn,hi,hd=>by
  by_cases hb:i<base
  ·rw [reach,if_pos (.inl hb)]
   have hf:(i :: ids).filter (fun i=>decide (base≤i))=ids.filter (fun i=>decide (base≤i)):=by simp [Nat.not_le.2 hb]
   rw [hf] at hd ⊢
   refine reach_gen n ids seen ?_ (fun j hj=>hi j (by simp [hj])) hd
   have:rcost h base (i :: ids)=1+rcost h base ids:=by simp [rcost,hb]
   omega
  ·have hb':base≤i:=by omega
   obtain ⟨b,h1,h2⟩:=hi i (by simp) hb'
   have hf:(i :: ids).filter (fun i=>decide (base≤i))=i :: ids.filter (fun i=>decide (base≤i)):=by simp [hb']
   rw [hf] at hd ⊢
   have hns:i ∉ seen:=by
    intro hm
    exact (List.nodup_append.1 hd).2.2 i hm i (by simp) rfl
   rw [reach,if_neg (by
    rintro (h3|h3)
    ·omega
    ·exact hns (by simpa using h3)),h1]
   simp only [Option.map_some,Option.getD_some]
   have low:∀ j ∈ b.body.refs.map (·.1),j<base:=fun j hj=>by
    obtain ⟨r,hr,rfl⟩:=List.mem_map.1 hj
    exact h2 r hr
   have hff:(b.body.refs.map (·.1)++ids).filter (fun i=>decide (base≤i))=ids.filter (fun i=>decide (base≤i)):=by
    rw [List.filter_append,List.filter_eq_nil_iff.2 (fun j hj=>by simpa using low j hj),List.nil_append]
   rw [reach_gen n (b.body.refs.map (·.1)++ids) (seen++[i]) ?_ ?_ ?_]
   ·rw [hff];simp
   ·rw [rcost_app,rcost_low low]
    have:rcost h base (i :: ids)=1+b.body.refs.length+rcost h base ids:=by simp [rcost,hb,blkRefs,h1]
    simp only [List.length_map]
    omega
   ·intro j hj hbj
    rcases List.mem_append.1 hj with hj|hj
    ·have:=low j hj;omega
    ·exact hi j (by simp [hj]) hbj
   ·rw [hff];simpa using hd
theorem compact_gen {h T:Heap} {v:AVal} {js:List Nat} {bs:Heap} (hv:v.refs=js.map fun j=>(h.length+j,0)) (hd:js.Nodup)
  (hT:∀ j ∈ js,∃ c e row ro,T[j]?=some ⟨.cells c e row ro,0⟩∧(∀ r ∈ refsL c,r.1<h.length)∧renL (newId h.length (js.map fun j=>h.length+j)) c=c)
  (hn:rcost (h++T) h.length (js.map fun j=>h.length+j)<64) (hbs:bs=js.map fun j=>(T[j]?).getD ⟨.map [],0⟩) :
  compact h.length v (h++T)=some (v.ren (newId h.length (js.map fun j=>h.length+j)),h++bs):=by
 subst hbs
 have get:∀ j,(h++T)[h.length+j]?=T[j]?:=fun j=>by rw [List.getElem?_append_right (by omega),Nat.add_sub_cancel_left]
 have hids:v.refs.map (·.1)=js.map fun j=>h.length+j:=by rw [hv];simp
 have hfil:(js.map fun j=>h.length+j).filter (fun i=>decide (h.length≤i))=js.map fun j=>h.length+j:=by
  rw [List.filter_eq_self]
  intro i hi
  obtain ⟨j,_,rfl⟩:=List.mem_map.1 hi
  simp
 have hnd:(js.map fun j=>h.length+j).Nodup:=by
  unfold List.Nodup at hd ⊢
  rw [List.pairwise_map]
  exact hd.imp fun hab e=>hab (by omega)
 have hr:reach (h++T) h.length 64 (js.map fun j=>h.length+j) []=js.map fun j=>h.length+j:=by
  have:=reach_gen (h:=h++T) (base:=h.length) 64 (js.map fun j=>h.length+j) [] hn (fun i hi _=>by
   obtain ⟨j,hj,rfl⟩:=List.mem_map.1 hi
   obtain ⟨c,e,row,ro,h1,h2,_⟩:=hT j hj
   exact ⟨⟨.cells c e row ro,0⟩,by rw [get];exact h1,h2⟩) (by rw [hfil];simpa using hnd)
  rw [this,hfil];rfl
 unfold compact
 rw [hids,hr]
 unfold compactBy
 rw [if_pos]
 ·simp only [List.take_left,List.map_map,Option.some.injEq,Prod.mk.injEq,true_and]
  congr 1
  refine List.map_congr_left fun j hj=>?_
  obtain ⟨c,e,row,ro,h1,_,h3⟩:=hT j hj
  simp only [Function.comp,get,h1,ABody.ren,h3,Option.getD_some]
 ·refine ⟨?_,by simp,hnd,?_⟩
  ·refine List.all_eq_true.2 fun r hr'=>?_
   rw [hv] at hr'
   obtain ⟨j,hj,rfl⟩:=List.mem_map.1 hr'
   obtain ⟨c,e,row,ro,h1,h2⟩:=hT j hj
   simp [keptRef,get,h1]
   exact .inr hj
  ·refine List.all_eq_true.2 fun i hi=>?_
   obtain ⟨j,hj,rfl⟩:=List.mem_map.1 hi
   obtain ⟨c,e,row,ro,h1,h2,_⟩:=hT j hj
   simp only [get,h1,ABody.isLoop,ABody.refs,Bool.not_false,Bool.true_and,Nat.le_add_right,decide_true]
   refine List.all_eq_true.2 fun r hr'=>?_
   simp [keptRef,h2 r hr']
section
variable {P:Program} {raw:FuncId→Bool} {base:Nat}
def loopB (fr:AFrame) (ps:List Tmp) (assign body:Code) (st:LoopState) (pd:Option Code):ABlk:=⟨.loop { state:=st,pending:=pd,fr:=fr,params:=ps,assign:=assign,body:=body },0⟩
def pendQ (Q:AExit→St→Prop) (pd:Option Code) (s:St):Prop :=
 match pd with
 | none=>Q .normal s
 | some (.exit id)=>Q (.exit id) s
 | some .ret=>Q .ret s
 | _=>False
theorem WP_rangeFunc {g:Operand} {ps:List Tmp} {assign body:Code} {fr:AFrame} {h:Heap} {Q:AExit→St→Prop} {f:FuncId} {a c:List AVal} (hg:ev fr g=.fn f a c) {v:AVal} {h2:Heap} {st:LoopState} {pd:Option Code}
  (hc:callL P raw base (.fn f a c) [.yld h.length] (h++[loopB fr ps assign body .ready none])=some (v,h2)) (hl:h2[h.length]?=some (loopB fr ps assign body st pd)) (hs:st ≠ .busy)
  (hq:pendQ Q pd ⟨fr,h2.set h.length (loopB fr ps assign body .exhausted pd)⟩) :
  WP P raw base (.rangeFunc g ps.toArray assign body) ⟨fr,h⟩ Q:=by
 rw [WP_iff]
 have hb:¬ st=.busy:=hs
 have hc':callWith P raw (evL P raw) base (.fn f a c) [.yld h.length] (h++[⟨.loop { state:=.ready,pending:=none,fr:=fr,params:=ps,assign:=assign,body:=body },0⟩])=some (v,h2):=hc
 simp only [evF,hg,AVal.isFn,if_true,hc',hl,loopB,hb,if_false]
 cases pd with
 | none=>exact ⟨_,_,rfl,hq⟩
 | some c=>cases c with
  | exit id=>exact ⟨_,_,rfl,hq⟩
  | ret=>exact ⟨_,_,rfl,hq⟩
  | _=>exact hq.elim
theorem callL_yld {l:Nat} {args:List AVal} {h:Heap} {fr:AFrame} {ps:List Tmp} {assign body:Code} {pd:Option Code} {s1 s2:St} {e:AExit} (hl:h[l]?=some (loopB fr ps assign body .ready pd)) (hn:args.length=ps.length)
  (h1:evL P raw base assign ⟨putAll fr ps args,h⟩=some (.normal,s1)) (hl1:s1.h[l]?=some (loopB fr ps assign body .ready pd))
  (h2:evL P raw base body ⟨s1.fr,s1.h.set l (loopB fr ps assign body .busy pd)⟩=some (e,s2)) (hl2:s2.h[l]?=some (loopB fr ps assign body .busy pd)) :
  callL P raw base (.yld l) args h=some (.bool (jumpOf e).isNone,s2.h.set l (loopB fr ps assign body (if (jumpOf e).isNone then .ready else .done) (jumpOf e))):=by
 have h2':evL P raw base body ⟨s1.fr,s1.h.set l ⟨.loop { state:=.busy,pending:=pd,fr:=fr,params:=ps,assign:=assign,body:=body },0⟩⟩=some (e,s2):=h2
 simp only [callL,callWith,hl,loopB,true_and,hn,if_true,h1,hl1,h2',hl2]
theorem callL_yldW {l:Nat} {args:List AVal} {h:Heap} {fr:AFrame} {ps:List Tmp} {assign body:Code} {pd:Option Code} {K:AExit→Heap→Prop} (hl:h[l]?=some (loopB fr ps assign body .ready pd)) (hn:args.length=ps.length)
  (hw:WP P raw base assign ⟨putAll fr ps args,h⟩ (fun e s1=>e=.normal∧s1.h[l]?=some (loopB fr ps assign body .ready pd) ∧
   WP P raw base body ⟨s1.fr,s1.h.set l (loopB fr ps assign body .busy pd)⟩ (fun e s2=>s2.h[l]?=some (loopB fr ps assign body .busy pd)∧K e s2.h))) :
  ∃ e h',K e h'∧callL P raw base (.yld l) args h=some (.bool (jumpOf e).isNone,h'.set l (loopB fr ps assign body (if (jumpOf e).isNone then .ready else .done) (jumpOf e))):=by
 obtain ⟨e1,s1,h1,rfl,hl1,e2,s2,h2,hl2,hK⟩:=hw
 exact ⟨e2,s2.h,hK,callL_yld hl hn h1 hl1 h2 hl2⟩
theorem callL_rawW {f:FuncId} {fn:Func} {c:Code} {first captured args:List AVal} {h:Heap} {K:AVal→Heap→Prop} (hf:P.funcs[f]?=some fn) (hb:fn.body=some c) (hraw:raw f=true)
  (hw:WP P raw base c ⟨argFr (first++args++captured),h⟩ (retQ P fn K)) (hq:xtrQ fn=false:=by kernel_rfl):∃ v h',callL P raw base (.fn f first captured) args h=some (v,h')∧K v h':=by
 obtain ⟨e,s',h1,h2⟩:=hw
 have hbA:=bodyA_of (args:=args) hb (insQ_no hq)
 cases e with
 | exit id=>exact h2.elim
 | normal =>
  obtain ⟨v,h3,h4⟩:=h2
  refine ⟨v,s'.h,?_,h4⟩
  unfold callL callWith
  simp only [hf,hbA,hraw,if_true,h1,h3]
 | ret =>
  obtain ⟨v,h3,h4⟩:=h2
  refine ⟨v,s'.h,?_,h4⟩
  unfold callL callWith
  simp only [hf,hbA,hraw,if_true,h1,h3]
end
theorem get_set {h:Heap} {i j:Nat} {b x:ABlk} (hx:h[j]?=some x):(h.set i b)[j]?=if i=j then some b else some x:=by
 rw [List.getElem?_set]
 have:=lt_of_get hx
 split
 ·rename_i e;subst e;rw [if_pos this]
 ·exact hx
theorem Ext.set {h H:Heap} {i:Nat} {b:ABlk} (e:Ext h H) (hi:h.length≤i):Ext h (H.set i b):=by
 obtain ⟨t,rfl⟩:=e
 exact ⟨t.set (i-h.length) b,by rw [List.set_append_right _ _ hi]⟩
theorem Ext.trans {a b c:Heap} (h1:Ext a b) (h2:Ext b c):Ext a c:=by
 obtain ⟨t,rfl⟩:=h1
 obtain ⟨u,rfl⟩:=h2
 exact ⟨t++u,by simp⟩
theorem Ext.len {h H:Heap} (e:Ext h H):h.length≤H.length:=by
 obtain ⟨t,rfl⟩:=e
 simp
theorem Ext.get {h H:Heap} {i:Nat} {b:ABlk} (e:Ext h H) (hb:h[i]?=some b):H[i]?=some b:=by
 obtain ⟨t,rfl⟩:=e
 rw [List.getElem?_append_left (lt_of_get hb)];exact hb
theorem Ints.ext {h H:Heap} {v:AVal} {l:List Int} (hI:Ints h v l) (e:Ext h H):Ints H v l:=by
 obtain ⟨t,rfl⟩:=e
 exact hI.app
theorem get_app {h T:Heap} {i:Nat} {b:ABlk} (hb:h[i]?=some b):(h++T)[i]?=some b:=by
 rw [List.getElem?_append_left (lt_of_get hb)];exact hb
theorem get_set_same {h:Heap} {i:Nat} {b:ABlk} (hi:i<h.length):(h.set i b)[i]?=some b:=by rw [List.getElem?_set_self hi]
theorem get_set_ne {h:Heap} {i j:Nat} {b:ABlk} (hi:i ≠ j):(h.set i b)[j]?=h[j]?:=by rw [List.getElem?_set_ne hi]
attribute [go_sem] get_set_same get_set_ne
end Go.AM
namespace Go.AM
section
variable {P:Program} {raw:FuncId→Bool} {base:Nat}
def Yields (P:Program) (raw:FuncId→Bool) (base L:Nat) (g:AVal) (N:Nat) (xs:Nat→List AVal) (I:Nat→Heap→Prop):Prop :=
 ∀ (J:Nat→Heap→Prop) (S:Heap→Prop) (H0:Heap),L+1=H0.length→(∀ j H,J j H→I j H∧L+1≤H.length)→(∀ j H T,J j H→J j (H++T)) →
  (∀ j H,j<N→J j H→∃ b H',callL P raw base (.yld L) (xs j) H=some (.bool b,H')∧(∀ i x,L+1≤i→H[i]?=some x→H'[i]?=some x)∧(b=true→J (j+1) H')∧(b=false→S H')) →
  J 0 H0→∃ v H',callL P raw base g [.yld L] H0=some (v,H')∧(J N H' ∨ S H')
theorem isNone_jump {e:AExit}:(jumpOf e).isNone=true ↔ e=.normal:=by cases e<;>simp [jumpOf]
theorem WP_range {g:Operand} {ps:List Tmp} {assign body:Code} {fr:AFrame} {h:Heap} {Q:AExit→St→Prop} {f:FuncId} {a c:List AVal} (hg:ev fr g=.fn f a c) {N:Nat} {xs:Nat→List AVal} (I:Nat→Heap→Prop) (E:AExit→Heap→Prop)
  (hit:Yields P raw base h.length (.fn f a c) N xs I) (hxs:∀ j,(xs j).length=ps.length) (happ:∀ j H T,I j H→I j (H++T)) (hset:∀ j H b,I j H→I j (H.set h.length b)) (hsetE:∀ e H b,E e H→E e (H.set h.length b))
  (h0:I 0 (h++[loopB fr ps assign body .ready none]))
  (hbody:∀ j H B1 B2,j<N→I j H→h.length+1≤H.length→H[h.length]?=some B1→WP P raw base assign ⟨putAll fr ps (xs j),H⟩ (fun e s1=>e=.normal∧s1.h[h.length]?=some B1 ∧
   WP P raw base body ⟨s1.fr,s1.h.set h.length B2⟩ (fun e s2=>s2.h[h.length]?=some B2∧(∀ i x,h.length+1≤i→H[i]?=some x→s2.h[i]?=some x) ∧
    ((e=.normal∧I (j+1) s2.h) ∨ (e ≠ .normal∧E e s2.h)))))
  (hQ:∀ H,I N H→Q .normal ⟨fr,H⟩) (hQE:∀ e H,e ≠ .normal→E e H→Q e ⟨fr,H⟩):WP P raw base (.rangeFunc g ps.toArray assign body) ⟨fr,h⟩ Q:=by
 obtain ⟨v,H',hc,hend⟩:=hit (fun j H=>I j H∧h.length+1≤H.length∧H[h.length]?=some (loopB fr ps assign body .ready none))
  (fun H=>∃ e,e ≠ .normal∧E e H∧H[h.length]?=some (loopB fr ps assign body .done (jumpOf e))) (h++[loopB fr ps assign body .ready none]) (by simp) (fun j H hJ=>⟨hJ.1,hJ.2.1⟩)
  (fun j H T hJ=>⟨happ j H T hJ.1,by simp;omega,get_app hJ.2.2⟩)
  (fun j H hj hJ=>by
   obtain ⟨e,H2,hK,hcall⟩:=callL_yldW (K:=fun e H2=>H2[h.length]?=some (loopB fr ps assign body .busy none)∧(∀ i x,h.length+1≤i→H[i]?=some x→H2[i]?=some x)∧((e=.normal∧I (j+1) H2) ∨ (e ≠ .normal∧E e H2)))
    hJ.2.2 (hxs j) (by
     obtain ⟨e1,s1,h1,rfl,h2,e2,s2,h3,h4⟩:=hbody j H _ (loopB fr ps assign body .busy none) hj hJ.1 hJ.2.1 hJ.2.2
     exact ⟨.normal,s1,h1,rfl,h2,e2,s2,h3,h4.1,h4⟩)
   refine ⟨_,_,hcall,fun i x hi hx=>?_,fun hb=>?_,fun hb=>?_⟩
   ·have:=hK.2.1 i x hi hx
    rw [get_set this,if_neg (by omega)]
   ·have he:e=.normal:=isNone_jump.1 hb
    subst he
    have hI2:I (j+1) H2:=by
     rcases hK.2.2 with h5|h5
     ·exact h5.2
     ·exact absurd rfl h5.1
    have hlt:=lt_of_get hK.1
    refine ⟨hset _ _ _ hI2,by simp;omega,?_⟩
    rw [get_set hK.1,if_pos rfl]
    rfl
   ·have he:e ≠ .normal:=fun h5=>by rw [isNone_jump.2 h5] at hb;cases hb
    have hE2:E e H2:=by
     rcases hK.2.2 with h5|h5
     ·exact absurd h5.1 he
     ·exact h5.2
    refine ⟨e,he,hsetE _ _ _ hE2,?_⟩
    rw [get_set hK.1,if_pos rfl,hb]
    rfl)
  ⟨h0,by simp,by simp⟩
 rcases hend with ⟨h1,_,h2⟩|⟨e,he,h1,h2⟩
 ·exact WP_rangeFunc hg hc h2 (by intro hh;cases hh) (hQ _ (hset _ _ _ h1))
 ·refine WP_rangeFunc hg hc h2 (by intro hh;cases hh) ?_
  have:=hQE e _ he (hsetE e _ (loopB fr ps assign body .exhausted (jumpOf e)) h1)
  cases e with
  | normal=>exact absurd rfl he
  | exit id=>exact this
  | ret=>exact this
end
theorem putAll_cons {fr:AFrame} {t:Tmp} {ts:List Tmp} {v:AVal} {vs:List AVal}:putAll fr (t :: ts) (v :: vs)=putAll (put fr (some t) v) ts vs:=rfl
theorem putAll_nil {fr:AFrame} {vs:List AVal}:putAll fr [] vs=fr:=by cases vs<;>rfl
attribute [go_sem] putAll_cons putAll_nil
end Go.AM
namespace Go.AM
def slcV (v:AVal) (lo hi:Nat):AVal:=match v with|.slice a _ k=>.slice (a.map (·.add lo)) (hi-lo) (k-lo)|v=>v
section
variable {P:Program} {h:Heap} {v:AVal} {l:List Int} {t e:TypeId} {zs:List AVal} {lo hi:Nat}
theorem Ints.slc (hI:Ints h v l) (h1:lo≤hi) (h2:hi≤l.length):Ints h (slcV v lo hi) ((l.take hi).drop lo):=by
 have hlen:((l.take hi).drop lo).length=hi-lo:=by simp;omega
 have hb:((l.take hi).drop lo).length<2 ^ 60:=by
  rw [hlen]
  have:=hI.1.1
  omega
 refine ⟨⟨hb,fun x hx=>hI.1.2 x (List.mem_of_mem_take (List.mem_of_mem_drop hx))⟩,?_⟩
 rcases hI.2 with ⟨rfl,rfl⟩|⟨rfl,rfl⟩|⟨r,k,c,e,row,ro,rfl,h3,h4,h5,h6⟩
 ·simp only [List.length_nil] at h2
  have:hi=0:=by omega
  subst this
  have:lo=0:=by omega
  subst this
  exact .inl ⟨rfl,rfl⟩
 ·exact .inr (.inl ⟨rfl,by simp⟩)
 ·refine .inr (.inr ⟨r.add lo,k-lo,c,e,row,ro,?_,h3,?_,?_,?_⟩)
  ·simp only [slcV,Option.map_some,hlen]
  ·simp only [ARef.add,hlen]
   have:ints ((l.take hi).drop lo)=((ints l).take hi).drop lo:=by simp [ints,List.map_take,List.map_drop]
   rw [this,← h4,List.take_take,Nat.min_eq_left h2,List.drop_take,List.drop_drop]
  ·simp only [ARef.add,hlen];omega
  ·rw [hlen];omega
theorem boundI {n:Int} {hi:Nat} (h0:0≤n) (h1:n≤hi):boundA (.int .i64 n) hi=some n.toNat:=by simp [boundA,h0,h1]
theorem sl_hi (ht:elS P t=some (e,1,zs)) (ha:arT P t=none) {n:Int} (h0:0≤n) (hI:Ints h v l) (h1:n≤l.length):sliceA P t v none (some (.int .i64 n)) none=some (slcV v 0 n.toNat):=by
 rcases hI.2 with ⟨rfl,rfl⟩|⟨rfl,rfl⟩|⟨r,k,c,e,row,ro,rfl,h3,h4,h5,h6⟩
 ·simp only [List.length_nil] at h1
  simp only [sliceA,ha,ht,optB,boundI h0 h1]
  simp [slcV]
 ·simp only [List.length_nil] at h1
  simp only [sliceA,ha,ht,optB,boundI h0 h1]
  simp [slcV]
 ·simp only [sliceA,ha,ht,optB,boundI h0 (show n≤(k:Int) by omega)]
  simp [slcV]
end
end Go.AM
