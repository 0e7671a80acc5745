/-
  Ends of calls, in one form; splits; facts of rows that grow.
-/
import Derived.Test.YtcemgempgbjbeaaGreatU7
import Derived.KernelRfl
set_option linter.unusedSimpArgs false
set_option linter.unusedVariables false
namespace Go.AM
theorem cnd_intro {p A B:Prop} (h1:p→A) (h2:¬ p→B):cnd p A B:=⟨h1,h2⟩
def Ext (h H:Heap):Prop:=∃ t,H=h++t
theorem Ext.refl {h:Heap}:Ext h h:=⟨[],by simp⟩
theorem Ext.app {h H t:Heap} (e:Ext h H):Ext h (H++t):=by
 obtain ⟨u,rfl⟩:=e
 exact ⟨u++t,by simp⟩
theorem fin_pl {h H:Heap} {v v':AVal} (e:v=v') (hv:v'.plain=true) (hH:Ext h H):compact h.length v H=some (v',h):=by
 subst e
 obtain ⟨t,rfl⟩:=hH
 exact compact_plain hv
theorem Ints.fresh_row {h:Heap} {n:Nat} {l:List Int} {k:Nat} (hl:Small l) (hn:h[n]?=some ⟨.cells (ints l) 3 true false,0⟩) (hk:l.length≤k):Ints h (.slice (some ⟨n,0,0⟩) l.length k) l:=by
 refine ⟨⟨Nat.lt_of_lt_of_le hl.1 (by decide),hl.2⟩,.inr (.inr ⟨⟨n,0,0⟩,k,ints l,3,true,false,rfl,hn,?_,by simp [ints_length],hk⟩)⟩
 simp only [List.drop_zero]
 rw [List.take_of_length_le (by rw [ints_length];exact Nat.le_refl _)]
theorem int_eq {k:IntKind} {a b:Int} (h:a=b):AVal.int k a=AVal.int k b:=by rw [h]
theorem bool_eq {a b:Bool} (h:a=b):AVal.bool a=AVal.bool b:=by rw [h]
theorem tup2_eq {a b c d:AVal} (h:a=c) (h':b=d):AVal.tuple [a,b]=AVal.tuple [c,d]:=by rw [h,h']
theorem tup3_eq {a b c d e f:AVal} (h:a=d) (h':b=e) (h'':c=f):AVal.tuple [a,b,c]=AVal.tuple [d,e,f]:=by rw [h,h',h'']
theorem dec_eq {p q:Prop} [Decidable p] [Decidable q] (hpq:p ↔ q):decide p=decide q:=decide_eq_decide.2 hpq
theorem ext_0 {a:AVal} {l:List AVal}:extractA (.tuple (a :: l)) 0=some a:=rfl
theorem ext_1 {a b:AVal} {l:List AVal}:extractA (.tuple (a :: b :: l)) 1=some b:=rfl
theorem ext_2 {a b c:AVal} {l:List AVal}:extractA (.tuple (a :: b :: c :: l)) 2=some c:=rfl
theorem ext_3 {a b c d:AVal} {l:List AVal}:extractA (.tuple (a :: b :: c :: d :: l)) 3=some d:=rfl
section
variable {h H:Heap} {k k' k'':IntKind} {a b c d e f:Int} {p q:Bool}
theorem fI (e:a=b) (hH:Ext h H:=by repeat' first|exact Ext.refl|refine Ext.app ?_):compact h.length (.int k a) H=some (.int k b,h):=fin_pl (int_eq e) rfl hH
theorem fB (e:p=q) (hH:Ext h H:=by repeat' first|exact Ext.refl|refine Ext.app ?_):compact h.length (.bool p) H=some (.bool q,h):=fin_pl (bool_eq e) rfl hH
theorem fII (e1:a=b) (e2:c=d) (hH:Ext h H:=by repeat' first|exact Ext.refl|refine Ext.app ?_):compact h.length (.tuple [.int k a,.int k' c]) H=some (.tuple [.int k b,.int k' d],h):=fin_pl (tup2_eq (int_eq e1) (int_eq e2)) rfl hH
theorem fBI (e1:p=q) (e2:c=d) (hH:Ext h H:=by repeat' first|exact Ext.refl|refine Ext.app ?_):compact h.length (.tuple [.bool p,.int k' c]) H=some (.tuple [.bool q,.int k' d],h):=fin_pl (tup2_eq (bool_eq e1) (int_eq e2)) rfl hH
theorem fIII (e1:a=b) (e2:c=d) (e3:e=f) (hH:Ext h H:=by repeat' first|exact Ext.refl|refine Ext.app ?_):compact h.length (.tuple [.int k a,.int k' c,.int k'' e]) H=some (.tuple [.int k b,.int k' d,.int k'' f],h):=fin_pl (tup3_eq (int_eq e1) (int_eq e2) (int_eq e3)) rfl hH
theorem fIIB (e1:a=b) (e2:c=d) (e3:p=q) (hH:Ext h H:=by repeat' first|exact Ext.refl|refine Ext.app ?_):compact h.length (.tuple [.int k a,.int k' c,.bool p]) H=some (.tuple [.int k b,.int k' d,.bool q],h):=fin_pl (tup3_eq (int_eq e1) (int_eq e2) (bool_eq e3)) rfl hH
end
end Go.AM
namespace Go.AM
def lst (f:Nat→Int) (n:Nat):List Int:=(List.range n).map f
theorem lst_len {f:Nat→Int} {n:Nat}:(lst f n).length=n:=by simp [lst]
theorem lst_ext {l m:List Int} (hl:l.length=m.length) (h:∀ i,i<l.length→l.getD i 0=m.getD i 0):l=m:=by
 refine List.ext_getElem hl fun i h1 h2=>?_
 have:=h i h1
 simpa [List.getD_eq_getElem?_getD,List.getElem?_eq_getElem h1,List.getElem?_eq_getElem h2] using this
theorem lst_succ {f:Nat→Int} {n:Nat}:lst f (n+1)=lst f n++[f n]:=by simp [lst,List.range_succ]
theorem lst_zero {f:Nat→Int}:lst f 0=[]:=rfl
theorem ints_set {l:List Int} {i:Nat} {x:Int}:(ints l).set i (.int .i64 x)=ints (l.set i x):=by simp [ints,List.map_set]
theorem ints_get {l:List Int} {i:Nat} (h:i<l.length):(ints l)[i]?=some (.int .i64 (l.getD i 0)):=by
 simp [ints,List.getD_eq_getElem?_getD,List.getElem?_eq_getElem h]
def rowB (l:List Int) (v:Nat):ABlk:=⟨.cells (ints l) 3 true false,v⟩
theorem elAddr_slice {id ver o n k i:Nat}:elAddr (.slice (some ⟨id,ver,o⟩) n k) i=.ptr (some ⟨id,ver,o+i⟩):=rfl
theorem ldB_row {l:List Int} {ver off z:Nat} (h:off<l.length):ldB (some (false,z)) (some (rowB l ver)) ver off=some (.int .i64 (l.getD off 0)):=by
 rw [rowB,ldB_cell,ints_get h]
theorem stQ_row {l:List Int} {base id ver off:Nat} {x:Int} {k:ABlk→Heap} (h:off<l.length):stQ base id (some (rowB l ver)) ver off [.int .i64 x] k=some (k (rowB (l.set off x) ver)):=by
 simp only [rowB,stQ]
 rw [if_pos ⟨trivial,by simp only [ints_length,List.length_cons,List.length_nil];omega,by simp [AVal.scalar],.inr (by simp [AVal.bare])⟩]
 simp only [splice,ints_set]
theorem newV_ne {n:Nat} {l:List Int} (h:l ≠ []):newV n l=.slice (some ⟨n,0,0⟩) l.length l.length:=by
 cases l with
 | nil=>exact absurd rfl h
 | cons x xs=>rfl
theorem newH_ne {l:List Int} (h:l ≠ []):newH l=[rowB l 0]:=by
 cases l with
 | nil=>exact absurd rfl h
 | cons x xs=>rfl
def grV (id:Nat) (l:List Int):AVal:=match l with|[]=>.slice none 0 0|_ :: _=>.slice (some ⟨id,l.length-1,0⟩) l.length l.length
def grH (l:List Int):Heap:=match l with|[]=>[]|_ :: _=>[rowB l (l.length-1)]
theorem grV_nil {n:Nat}:grV n []=.slice none 0 0:=rfl
theorem grH_nil:grH []=[]:=rfl
section
variable {P:Program} {base:Nat} {A:Heap} {l:List Int} {x:Int} {t:TypeId} {zs:List AVal} {n:Nat}
theorem bs_lit {lit:Bool} {h:Heap} {e:TypeId} {z0:AVal} (hl:lit=true) (ht:elS P t=some (e,1,[z0])):bsA P lit h t 1 [(0,.int .i64 x)]=some (.vals [.int .i64 x],h):=by
 subst hl
 simp [bsA,rowOf,ht,fillA,repCells,AVal.isN,AVal.cells,splice,AVal.bare]
theorem bs_row {lit:Bool} {h:Heap} {z0:AVal} (hl:lit=false) (ht:elS P t=some (3,1,[z0])):bsA P lit h t 1 [(0,.int .i64 x)]=some (.slice (some ⟨h.length,0,0⟩) 1 1,h++[rowB [x] 0]):=by
 subst hl
 simp [bsA,rowOf,ht,fillA,repCells,AVal.isN,AVal.cells,splice,rowB,ints]
end
end Go.AM
namespace Go.AM
theorem One.lit {v:AVal} (h:v.isN=false∧v.cells=[v]∧v.scalar=true):One v:=h
theorem litT {ops:List Oper} {d:Option Tmp} (h:litIn ops d=true):litIn ops d=true:=h
theorem litF {ops:List Oper} {d:Option Tmp} (h:litIn ops d=false):litIn ops d=false:=h
theorem asInts {h:Heap} {v:AVal} {l:List Int} (x:Ints h v l):Ints h v l:=x
theorem asOne {v:AVal} (x:One v):One v:=x
theorem asScal {l:List AVal} (x:l.all AVal.scalar=true):l.all AVal.scalar=true:=x
theorem oneA_nil:oneA (some [])=some (.tuple []):=rfl
theorem len_sl {P:Program} {t e:TypeId} {z:Nat} {zs:List AVal} {H:Heap} {r:ARef} {m k:Nat} (ht:elS P t=some (e,z,zs)):lenOpA P H t (.slice (some r) m k)=some (.int .i64 (m:Int)):=by
 simp [lenOpA,ht,lenA]
theorem adr_sl {P:Program} {t e:TypeId} {z:Nat} {zs:List AVal} {o v f m k:Nat} {i:Int} (ht:elS P t=some (e,z,zs)) (ha:arT P t=none) (h0:0≤i) (h1:i<m) :
  indexAddrA P t (.slice (some ⟨o,v,f⟩) m k) (.int .i64 i)=some (.ptr (some ⟨o,v,f+i.toNat * z⟩)):=by
 simp [indexAddrA,ha,ht,h0,h1,ARef.add]
theorem WP_loop1 {P:Program} {raw:FuncId→Bool} {base:Nat} {c:Code} {s:St} {Q:AExit→St→Prop}:WP P raw base (.loop c) s Q=WP P raw base c s (thenQ (fun s1=>WP P raw base (.loop c) s1 Q) Q):=by
 apply propext
 rw [WP_iff]
 simp only [evF,WP]
 constructor
 ·rintro ⟨e,s',h,hq⟩
  split at h
  ·rename_i s1 h1
   exact ⟨.normal,s1,h1,e,s',h,hq⟩
  ·rename_i hne
   refine ⟨e,s',h,?_⟩
   cases e with
   | normal=>exact absurd h (hne s')
   | exit id=>exact hq
   | ret=>exact hq
 ·rintro ⟨e,s1,h,hq⟩
  cases e with
  | normal =>
   obtain ⟨e',s',h',hq'⟩:=hq
   exact ⟨e',s',by rw [h];exact h',hq'⟩
  | exit id=>exact ⟨.exit id,s1,by rw [h],hq⟩
  | ret=>exact ⟨.ret,s1,by rw [h],hq⟩
theorem isN_agg {cs:List AVal}:(AVal.agg cs).isN=false:=rfl
theorem allS1 {a:AVal} (ha:One a):[a].all AVal.scalar=true:=by simp [ha.2.2]
theorem allS2 {a b:AVal} (ha:One a) (hb:One b):[a,b].all AVal.scalar=true:=by simp [ha.2.2,hb.2.2]
theorem allS3 {a b c:AVal} (ha:One a) (hb:One b) (hc:One c):[a,b,c].all AVal.scalar=true:=by simp [ha.2.2,hb.2.2,hc.2.2]
theorem allS4 {a b c d:AVal} (ha:One a) (hb:One b) (hc:One c) (hd:One d):[a,b,c,d].all AVal.scalar=true:=by simp [ha.2.2,hb.2.2,hc.2.2,hd.2.2]
theorem stQ_own {base id ver off:Nat} {c vs:List AVal} {e:TypeId} {row:Bool} {k:ABlk→Heap} (h3:base≤id) (h1:off+vs.length≤c.length) (h2:vs.all AVal.scalar=true) :
  stQ base id (some ⟨.cells c e row false,ver⟩) ver off vs k=some (k ⟨.cells (splice c off vs) e row false,ver⟩):=stQ_ok h1 h2 h3
theorem adr_arr {P:Program} {t:TypeId} {n z id ver o:Nat} {q:Bool} {i:Int} (ha:arT P t=some (n,q,z)) (h0:0≤i) (h1:i<n):indexAddrA P t (.ptr (some ⟨id,ver,o⟩)) (.int .i64 i)=some (.ptr (some ⟨id,ver,o+i.toNat * z⟩)):=by
 simp [indexAddrA,ha,h0,h1,ARef.add]
attribute [go_sem ↓] WP_skip WP_ret WP_label WP_exit WP_scope WP_seq WP_block WP_cond WP_region OPS_nil OPS_cons STEP_guard STEP_move STEP_assign STEP_pick STEP_load STEP_nilCheck STEP_binOp STEP_unOp STEP_convert STEP_makeFunc STEP_slice STEP_fieldAddr STEP_field STEP_indexAddr STEP_index STEP_lookup STEP_extract STEP_build STEP_store' STEP_alloc STEP_box STEP_buildSlice STEP_makeSlice STEP_makeMap STEP_mapUpdate STEP_call STEP_len STEP_append STEP_clear
attribute [go_sem ↓] thenQ_normal thenQ_ret thenQ_exit inBlockQ_normal inBlockQ_ret inBlockQ_same inBlockQ_ne retQ_ret retQ_normal
attribute [go_sem] bindv_some bindp_some cnd_true cnd_false condQ_bool guardQ_some extQ_false extQ_same
attribute [go_sem ↓] ev_tmp ev_int ev_bool ev_nilS ev_nilP ev_nilM ev_nilF ev_func put_none put_same put_ne
attribute [go_sem] argFr_succ argFr_zero ne_eq Nat.reduceEqDiff not_false_eq_true decide_eq_true_eq resultsL_nil resultsL_tmp resultsL_cell consA_some oneA_one oneA_two
attribute [go_sem] bin_lss bin_leq bin_gtr bin_geq bin_eql bin_neq bin_add bin_sub bin_mul bin_quo bin_rem bin_shl bin_shr un_not un_neg pick_true pick_false
attribute [go_sem] List.nil_append List.append_nil List.cons_append List.map_cons List.map_nil
attribute [go_sem ↓] guard_lit dstAt_zero dstAt_succ guardV_some
attribute [go_sem] Bool.false_eq_true eq_self gv_true gv_false gv_undef decide_true decide_false Bool.not_true Bool.not_false
attribute [go_sem ↓] set_lt set_eq
attribute [go_sem] load_eq ldB_cell ldB_agg box_agg cells_agg fieldAddr_eq splice_nil splice_cons get_lt get_eq Option.map_some List.length_append List.length_cons List.length_nil List.length_set Nat.zero_add Nat.add_zero Nat.reduceAdd List.set_cons_zero List.set_cons_succ List.getElem?_cons_zero List.getElem?_cons_succ List.drop_zero List.take_succ_cons List.take_zero
attribute [go_sem ↓] STEP_min STEP_max
attribute [go_sem] min_int max_int
attribute [go_sem] Int.reduceToNat Nat.reduceMul Int.reduceLT Int.reduceAdd Nat.zero_mul Int.reduceEq Int.cast_ofNat_Int List.drop_succ_cons Nat.reduceLT Nat.reduceSub
attribute [go_sem] Option.map_none box_one oneA_nil not_true_eq_false not_false_eq_true true_and and_true AVal.int.injEq Bool.not_eq_true' ext_0 ext_1 ext_2 ext_3 Option.isNone_some if_false wrap64 Int.toNat_natCast stQ_own ints_get ints_set ints_length ldB_row stQ_row elAddr_slice lst_len Nat.mul_one
theorem WP_drw {P:Program} {raw:FuncId→Bool} {base:Nat} {s:St} {Q:AExit→St→Prop} {id:Nat} {l:List Oper} (h:OPS P raw base l.toArray true l s (Q .normal)) (hl:looseL false l.toArray=[]:=by kernel_rfl) (hd:drawOk (quietB P) false l.toArray=true:=by kernel_rfl):WP P raw base (.region id l.toArray true) s Q:=WP_draw hl h hd
end Go.AM
namespace Go.AM
def blkRefs (h:Heap) (i:Nat):List (Nat × Nat):=((h[i]?).map fun b=>b.body.refs).getD []
def rcost (h:Heap) (base:Nat) (ids:List Nat):Nat:=(ids.map fun i=>if i<base then 1 else 1+(blkRefs h i).length).sum
theorem rcost_low {h:Heap} {base:Nat}:∀ {l:List Nat},(∀ i ∈ l,i<base)→rcost h base l=l.length
 | [],_=>rfl
 | i :: l,hi=>by
  have ih:=rcost_low (h:=h) (l:=l) (fun j hj=>hi j (by simp [hj]))
  simp only [rcost,List.map_cons,List.sum_cons,if_pos (hi i (by simp)),List.length_cons] at ih ⊢
  omega
theorem rcost_app {h:Heap} {base:Nat} {a b:List Nat}:rcost h base (a++b)=rcost h base a+rcost h base b:=by simp [rcost,List.sum_append]
theorem reach_gen {h:Heap} {base:Nat}:∀ (n:Nat) (ids seen:List Nat),rcost h base ids<n→(∀ i ∈ ids,base≤i→∃ b,h[i]?=some b∧∀ r ∈ b.body.refs,r.1<base) →
  (seen++ids.filter (fun i=>decide (base≤i))).Nodup→reach h base n ids seen=seen++ids.filter (fun i=>decide (base≤i))
 | 0,_,_,hn,_,_=>by omega
 | n+1,[],seen,_,_,_=>by simp [reach]
 | n+1,i :: ids,seen,hn,hi,hd=>by
  by_cases hb:i<base
  ·rw [reach,if_pos (.inl hb)]
   have hf:(i :: ids).filter (fun i=>decide (base≤i))=ids.filter (fun i=>decide (base≤i)):=by simp [Nat.not_le.2 hb]
   rw [hf] at hd ⊢
   refine reach_gen n ids seen ?_ (fun j hj=>hi j (by simp [hj])) hd
   have:rcost h base (i :: ids)=1+rcost h base ids:=by simp [rcost,hb]
   omega
  ·have hb':base≤i:=by omega
   obtain ⟨b,h1,h2⟩:=hi i (by simp) hb'
   have hf:(i :: ids).filter (fun i=>decide (base≤i))=i :: ids.filter (fun i=>decide (base≤i)):=by simp [hb']
   rw [hf] at hd ⊢
   have hns:i ∉ seen:=by
    intro hm
    exact (List.nodup_append.1 hd).2.2 i hm i (by simp) rfl
   rw [reach,if_neg (by
    rintro (h3|h3)
    ·omega
    ·exact hns (by simpa using h3)),h1]
   simp only [Option.map_some,Option.getD_some]
   have low:∀ j ∈ b.body.refs.map (·.1),j<base:=fun j hj=>by
    obtain ⟨r,hr,rfl⟩:=List.mem_map.1 hj
    exact h2 r hr
   have hff:(b.body.refs.map (·.1)++ids).filter (fun i=>decide (base≤i))=ids.filter (fun i=>decide (base≤i)):=by
    rw [List.filter_append,List.filter_eq_nil_iff.2 (fun j hj=>by simpa using low j hj),List.nil_append]
   rw [reach_gen n (b.body.refs.map (·.1)++ids) (seen++[i]) ?_ ?_ ?_]
   ·rw [hff];simp
   ·rw [rcost_app,rcost_low low]
    have:rcost h base (i :: ids)=1+b.body.refs.length+rcost h base ids:=by simp [rcost,hb,blkRefs,h1]
    simp only [List.length_map]
    omega
   ·intro j hj hbj
    rcases List.mem_append.1 hj with hj|hj
    ·have:=low j hj;omega
    ·exact hi j (by simp [hj]) hbj
   ·rw [hff];simpa using hd
theorem compact_gen {h T:Heap} {v:AVal} {js:List Nat} {bs:Heap} (hv:v.refs=js.map fun j=>(h.length+j,0)) (hd:js.Nodup)
  (hT:∀ j ∈ js,∃ c e row ro,T[j]?=some ⟨.cells c e row ro,0⟩∧(∀ r ∈ refsL c,r.1<h.length)∧renL (newId h.length (js.map fun j=>h.length+j)) c=c)
  (hn:rcost (h++T) h.length (js.map fun j=>h.length+j)<64) (hbs:bs=js.map fun j=>(T[j]?).getD ⟨.map [],0⟩) :
  compact h.length v (h++T)=some (v.ren (newId h.length (js.map fun j=>h.length+j)),h++bs):=by
 subst hbs
 have get:∀ j,(h++T)[h.length+j]?=T[j]?:=fun j=>by rw [List.getElem?_append_right (by omega),Nat.add_sub_cancel_left]
 have hids:v.refs.map (·.1)=js.map fun j=>h.length+j:=by rw [hv];simp
 have hfil:(js.map fun j=>h.length+j).filter (fun i=>decide (h.length≤i))=js.map fun j=>h.length+j:=by
  rw [List.filter_eq_self]
  intro i hi
  obtain ⟨j,_,rfl⟩:=List.mem_map.1 hi
  simp
 have hnd:(js.map fun j=>h.length+j).Nodup:=by
  unfold List.Nodup at hd ⊢
  rw [List.pairwise_map]
  exact hd.imp fun hab e=>hab (by omega)
 have hr:reach (h++T) h.length 64 (js.map fun j=>h.length+j) []=js.map fun j=>h.length+j:=by
  have:=reach_gen (h:=h++T) (base:=h.length) 64 (js.map fun j=>h.length+j) [] hn (fun i hi _=>by
   obtain ⟨j,hj,rfl⟩:=List.mem_map.1 hi
   obtain ⟨c,e,row,ro,h1,h2,_⟩:=hT j hj
   exact ⟨⟨.cells c e row ro,0⟩,by rw [get];exact h1,h2⟩) (by rw [hfil];simpa using hnd)
  rw [this,hfil];rfl
 unfold compact
 rw [hids,hr]
 unfold compactBy
 rw [if_pos]
 ·simp only [List.take_left,List.map_map,Option.some.injEq,Prod.mk.injEq,true_and]
  congr 1
  refine List.map_congr_left fun j hj=>?_
  obtain ⟨c,e,row,ro,h1,_,h3⟩:=hT j hj
  simp only [Function.comp,get,h1,ABody.ren,h3,Option.getD_some]
 ·refine ⟨?_,by simp,hnd,?_⟩
  ·refine List.all_eq_true.2 fun r hr'=>?_
   rw [hv] at hr'
   obtain ⟨j,hj,rfl⟩:=List.mem_map.1 hr'
   obtain ⟨c,e,row,ro,h1,h2⟩:=hT j hj
   simp [keptRef,get,h1]
   exact .inr hj
  ·refine List.all_eq_true.2 fun i hi=>?_
   obtain ⟨j,hj,rfl⟩:=List.mem_map.1 hi
   obtain ⟨c,e,row,ro,h1,h2,_⟩:=hT j hj
   simp only [get,h1,ABody.isLoop,ABody.refs,Bool.not_false,Bool.true_and,Nat.le_add_right,decide_true]
   refine List.all_eq_true.2 fun r hr'=>?_
   simp [keptRef,h2 r hr']
section
variable {P:Program} {raw:FuncId→Bool} {base:Nat}
def loopB (fr:AFrame) (ps:List Tmp) (assign body:Code) (st:LoopState) (pd:Option Code):ABlk:=⟨.loop { state:=st,pending:=pd,fr:=fr,params:=ps,assign:=assign,body:=body },0⟩
def pendQ (Q:AExit→St→Prop) (pd:Option Code) (s:St):Prop :=
 match pd with
 | none=>Q .normal s
 | some (.exit id)=>Q (.exit id) s
 | some .ret=>Q .ret s
 | _=>False
theorem WP_rangeFunc {g:Operand} {ps:List Tmp} {assign body:Code} {fr:AFrame} {h:Heap} {Q:AExit→St→Prop} {f:FuncId} {a c:List AVal} (hg:ev fr g=.fn f a c) {v:AVal} {h2:Heap} {st:LoopState} {pd:Option Code}
  (hc:callL P raw base (.fn f a c) [.yld h.length] (h++[loopB fr ps assign body .ready none])=some (v,h2)) (hl:h2[h.length]?=some (loopB fr ps assign body st pd)) (hs:st ≠ .busy)
  (hq:pendQ Q pd ⟨fr,h2.set h.length (loopB fr ps assign body .exhausted pd)⟩) :
  WP P raw base (.rangeFunc g ps.toArray assign body) ⟨fr,h⟩ Q:=by
 rw [WP_iff]
 have hb:¬ st=.busy:=hs
 have hc':callWith P raw (evL P raw) base (.fn f a c) [.yld h.length] (h++[⟨.loop { state:=.ready,pending:=none,fr:=fr,params:=ps,assign:=assign,body:=body },0⟩])=some (v,h2):=hc
 simp only [evF,hg,AVal.isFn,if_true,hc',hl,loopB,hb,if_false]
 cases pd with
 | none=>exact ⟨_,_,rfl,hq⟩
 | some c=>cases c with
  | exit id=>exact ⟨_,_,rfl,hq⟩
  | ret=>exact ⟨_,_,rfl,hq⟩
  | _=>exact hq.elim
theorem callL_yld {l:Nat} {args:List AVal} {h:Heap} {fr:AFrame} {ps:List Tmp} {assign body:Code} {pd:Option Code} {s1 s2:St} {e:AExit} (hl:h[l]?=some (loopB fr ps assign body .ready pd)) (hn:args.length=ps.length)
  (h1:evL P raw base assign ⟨putAll fr ps args,h⟩=some (.normal,s1)) (hl1:s1.h[l]?=some (loopB fr ps assign body .ready pd))
  (h2:evL P raw base body ⟨s1.fr,s1.h.set l (loopB fr ps assign body .busy pd)⟩=some (e,s2)) (hl2:s2.h[l]?=some (loopB fr ps assign body .busy pd)) :
  callL P raw base (.yld l) args h=some (.bool (jumpOf e).isNone,s2.h.set l (loopB fr ps assign body (if (jumpOf e).isNone then .ready else .done) (jumpOf e))):=by
 have h2':evL P raw base body ⟨s1.fr,s1.h.set l ⟨.loop { state:=.busy,pending:=pd,fr:=fr,params:=ps,assign:=assign,body:=body },0⟩⟩=some (e,s2):=h2
 simp only [callL,callWith,hl,loopB,true_and,hn,if_true,h1,hl1,h2',hl2]
theorem callL_yldW {l:Nat} {args:List AVal} {h:Heap} {fr:AFrame} {ps:List Tmp} {assign body:Code} {pd:Option Code} {K:AExit→Heap→Prop} (hl:h[l]?=some (loopB fr ps assign body .ready pd)) (hn:args.length=ps.length)
  (hw:WP P raw base assign ⟨putAll fr ps args,h⟩ (fun e s1=>e=.normal∧s1.h[l]?=some (loopB fr ps assign body .ready pd) ∧
   WP P raw base body ⟨s1.fr,s1.h.set l (loopB fr ps assign body .busy pd)⟩ (fun e s2=>s2.h[l]?=some (loopB fr ps assign body .busy pd)∧K e s2.h))) :
  ∃ e h',K e h'∧callL P raw base (.yld l) args h=some (.bool (jumpOf e).isNone,h'.set l (loopB fr ps assign body (if (jumpOf e).isNone then .ready else .done) (jumpOf e))):=by
 obtain ⟨e1,s1,h1,rfl,hl1,e2,s2,h2,hl2,hK⟩:=hw
 exact ⟨e2,s2.h,hK,callL_yld hl hn h1 hl1 h2 hl2⟩
end
theorem get_set {h:Heap} {i j:Nat} {b x:ABlk} (hx:h[j]?=some x):(h.set i b)[j]?=if i=j then some b else some x:=by
 rw [List.getElem?_set]
 have:=lt_of_get hx
 split
 ·rename_i e;subst e;rw [if_pos this]
 ·exact hx
theorem Ext.set {h H:Heap} {i:Nat} {b:ABlk} (e:Ext h H) (hi:h.length≤i):Ext h (H.set i b):=by
 obtain ⟨t,rfl⟩:=e
 exact ⟨t.set (i-h.length) b,by rw [List.set_append_right _ _ hi]⟩
theorem Ext.trans {a b c:Heap} (h1:Ext a b) (h2:Ext b c):Ext a c:=by
 obtain ⟨t,rfl⟩:=h1
 obtain ⟨u,rfl⟩:=h2
 exact ⟨t++u,by simp⟩
theorem Ext.len {h H:Heap} (e:Ext h H):h.length≤H.length:=by
 obtain ⟨t,rfl⟩:=e
 simp
theorem Ext.get {h H:Heap} {i:Nat} {b:ABlk} (e:Ext h H) (hb:h[i]?=some b):H[i]?=some b:=by
 obtain ⟨t,rfl⟩:=e
 rw [List.getElem?_append_left (lt_of_get hb)];exact hb
theorem Ints.ext {h H:Heap} {v:AVal} {l:List Int} (hI:Ints h v l) (e:Ext h H):Ints H v l:=by
 obtain ⟨t,rfl⟩:=e
 exact hI.app
theorem get_app {h T:Heap} {i:Nat} {b:ABlk} (hb:h[i]?=some b):(h++T)[i]?=some b:=by
 rw [List.getElem?_append_left (lt_of_get hb)];exact hb
theorem get_set_same {h:Heap} {i:Nat} {b:ABlk} (hi:i<h.length):(h.set i b)[i]?=some b:=by rw [List.getElem?_set_self hi]
theorem get_set_ne {h:Heap} {i j:Nat} {b:ABlk} (hi:i ≠ j):(h.set i b)[j]?=h[j]?:=by rw [List.getElem?_set_ne hi]
attribute [go_sem] get_set_same get_set_ne
end Go.AM
namespace Go.AM
section
variable {P:Program} {raw:FuncId→Bool} {base:Nat}
def Yields (P:Program) (raw:FuncId→Bool) (base L:Nat) (g:AVal) (N:Nat) (xs:Nat→List AVal) (I:Nat→Heap→Prop):Prop :=
 ∀ (J:Nat→Heap→Prop) (S:Heap→Prop) (H0:Heap),L+1=H0.length→(∀ j H,J j H→I j H∧L+1≤H.length)→(∀ j H T,J j H→J j (H++T)) →
  (∀ j H,j<N→J j H→∃ b H',callL P raw base (.yld L) (xs j) H=some (.bool b,H')∧(∀ i x,L+1≤i→H[i]?=some x→H'[i]?=some x)∧(b=true→J (j+1) H')∧(b=false→S H')) →
  J 0 H0→∃ v H',callL P raw base g [.yld L] H0=some (v,H')∧(J N H' ∨ S H')
theorem isNone_jump {e:AExit}:(jumpOf e).isNone=true ↔ e=.normal:=by cases e<;>simp [jumpOf]
theorem WP_range {g:Operand} {ps:List Tmp} {assign body:Code} {fr:AFrame} {h:Heap} {Q:AExit→St→Prop} {f:FuncId} {a c:List AVal} (hg:ev fr g=.fn f a c) {N:Nat} {xs:Nat→List AVal} (I:Nat→Heap→Prop) (E:AExit→Heap→Prop)
  (hit:Yields P raw base h.length (.fn f a c) N xs I) (hxs:∀ j,(xs j).length=ps.length) (happ:∀ j H T,I j H→I j (H++T)) (hset:∀ j H b,I j H→I j (H.set h.length b)) (hsetE:∀ e H b,E e H→E e (H.set h.length b))
  (h0:I 0 (h++[loopB fr ps assign body .ready none]))
  (hbody:∀ j H B1 B2,j<N→I j H→h.length+1≤H.length→H[h.length]?=some B1→WP P raw base assign ⟨putAll fr ps (xs j),H⟩ (fun e s1=>e=.normal∧s1.h[h.length]?=some B1 ∧
   WP P raw base body ⟨s1.fr,s1.h.set h.length B2⟩ (fun e s2=>s2.h[h.length]?=some B2∧(∀ i x,h.length+1≤i→H[i]?=some x→s2.h[i]?=some x) ∧
    ((e=.normal∧I (j+1) s2.h) ∨ (e ≠ .normal∧E e s2.h)))))
  (hQ:∀ H,I N H→Q .normal ⟨fr,H⟩) (hQE:∀ e H,e ≠ .normal→E e H→Q e ⟨fr,H⟩):WP P raw base (.rangeFunc g ps.toArray assign body) ⟨fr,h⟩ Q:=by
 obtain ⟨v,H',hc,hend⟩:=hit (fun j H=>I j H∧h.length+1≤H.length∧H[h.length]?=some (loopB fr ps assign body .ready none))
  (fun H=>∃ e,e ≠ .normal∧E e H∧H[h.length]?=some (loopB fr ps assign body .done (jumpOf e))) (h++[loopB fr ps assign body .ready none]) (by simp) (fun j H hJ=>⟨hJ.1,hJ.2.1⟩)
  (fun j H T hJ=>⟨happ j H T hJ.1,by simp;omega,get_app hJ.2.2⟩)
  (fun j H hj hJ=>by
   obtain ⟨e,H2,hK,hcall⟩:=callL_yldW (K:=fun e H2=>H2[h.length]?=some (loopB fr ps assign body .busy none)∧(∀ i x,h.length+1≤i→H[i]?=some x→H2[i]?=some x)∧((e=.normal∧I (j+1) H2) ∨ (e ≠ .normal∧E e H2)))
    hJ.2.2 (hxs j) (by
     obtain ⟨e1,s1,h1,rfl,h2,e2,s2,h3,h4⟩:=hbody j H _ (loopB fr ps assign body .busy none) hj hJ.1 hJ.2.1 hJ.2.2
     exact ⟨.normal,s1,h1,rfl,h2,e2,s2,h3,h4.1,h4⟩)
   refine ⟨_,_,hcall,fun i x hi hx=>?_,fun hb=>?_,fun hb=>?_⟩
   ·have:=hK.2.1 i x hi hx
    rw [get_set this,if_neg (by omega)]
   ·have he:e=.normal:=isNone_jump.1 hb
    subst he
    have hI2:I (j+1) H2:=by
     rcases hK.2.2 with h5|h5
     ·exact h5.2
     ·exact absurd rfl h5.1
    have hlt:=lt_of_get hK.1
    refine ⟨hset _ _ _ hI2,by simp;omega,?_⟩
    rw [get_set hK.1,if_pos rfl]
    rfl
   ·have he:e ≠ .normal:=fun h5=>by rw [isNone_jump.2 h5] at hb;cases hb
    have hE2:E e H2:=by
     rcases hK.2.2 with h5|h5
     ·exact absurd h5.1 he
     ·exact h5.2
    refine ⟨e,he,hsetE _ _ _ hE2,?_⟩
    rw [get_set hK.1,if_pos rfl,hb]
    rfl)
  ⟨h0,by simp,by simp⟩
 rcases hend with ⟨h1,_,h2⟩|⟨e,he,h1,h2⟩
 ·exact WP_rangeFunc hg hc h2 (by intro hh;cases hh) (hQ _ (hset _ _ _ h1))
 ·refine WP_rangeFunc hg hc h2 (by intro hh;cases hh) ?_
  have:=hQE e _ he (hsetE e _ (loopB fr ps assign body .exhausted (jumpOf e)) h1)
  cases e with
  | normal=>exact absurd rfl he
  | exit id=>exact this
  | ret=>exact this
end
theorem putAll_cons {fr:AFrame} {t:Tmp} {ts:List Tmp} {v:AVal} {vs:List AVal}:putAll fr (t :: ts) (v :: vs)=putAll (put fr (some t) v) ts vs:=rfl
theorem putAll_nil {fr:AFrame} {vs:List AVal}:putAll fr [] vs=fr:=by cases vs<;>rfl
attribute [go_sem] putAll_cons putAll_nil
end Go.AM
namespace Go.AM
def slcV (v:AVal) (lo hi:Nat):AVal:=match v with|.slice a _ k=>.slice (a.map (·.add lo)) (hi-lo) (k-lo)|v=>v
section
variable {P:Program} {h:Heap} {v:AVal} {l:List Int} {t e:TypeId} {zs:List AVal} {lo hi:Nat}
theorem Ints.slc (hI:Ints h v l) (h1:lo≤hi) (h2:hi≤l.length):Ints h (slcV v lo hi) ((l.take hi).drop lo):=by
 have hlen:((l.take hi).drop lo).length=hi-lo:=by simp;omega
 have hb:((l.take hi).drop lo).length<2 ^ 60:=by
  rw [hlen]
  have:=hI.1.1
  omega
 refine ⟨⟨hb,fun x hx=>hI.1.2 x (List.mem_of_mem_take (List.mem_of_mem_drop hx))⟩,?_⟩
 rcases hI.2 with ⟨rfl,rfl⟩|⟨rfl,rfl⟩|⟨r,k,c,e,row,ro,rfl,h3,h4,h5,h6⟩
 ·simp only [List.length_nil] at h2
  have:hi=0:=by omega
  subst this
  have:lo=0:=by omega
  subst this
  exact .inl ⟨rfl,rfl⟩
 ·exact .inr (.inl ⟨rfl,by simp⟩)
 ·refine .inr (.inr ⟨r.add lo,k-lo,c,e,row,ro,?_,h3,?_,?_,?_⟩)
  ·simp only [slcV,Option.map_some,hlen]
  ·simp only [ARef.add,hlen]
   have:ints ((l.take hi).drop lo)=((ints l).take hi).drop lo:=by simp [ints,List.map_take,List.map_drop]
   rw [this,← h4,List.take_take,Nat.min_eq_left h2,List.drop_take,List.drop_drop]
  ·simp only [ARef.add,hlen];omega
  ·rw [hlen];omega
theorem boundI {n:Int} {hi:Nat} (h0:0≤n) (h1:n≤hi):boundA (.int .i64 n) hi=some n.toNat:=by simp [boundA,h0,h1]
theorem sl_hi (ht:elS P t=some (e,1,zs)) (ha:arT P t=none) {n:Int} (h0:0≤n) (hI:Ints h v l) (h1:n≤l.length):sliceA P t v none (some (.int .i64 n)) none=some (slcV v 0 n.toNat):=by
 rcases hI.2 with ⟨rfl,rfl⟩|⟨rfl,rfl⟩|⟨r,k,c,e,row,ro,rfl,h3,h4,h5,h6⟩
 ·simp only [List.length_nil] at h1
  simp only [sliceA,ha,ht,optB,boundI h0 h1]
  simp [slcV]
 ·simp only [List.length_nil] at h1
  simp only [sliceA,ha,ht,optB,boundI h0 h1]
  simp [slcV]
 ·simp only [sliceA,ha,ht,optB,boundI h0 (show n≤(k:Int) by omega)]
  simp [slcV]
end
end Go.AM
