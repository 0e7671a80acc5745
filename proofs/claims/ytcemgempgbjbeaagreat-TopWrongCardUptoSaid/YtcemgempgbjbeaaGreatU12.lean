/-
  Contracts: lists of integers that are copied and compared; what is less.
-/
import Derived.Test.YtcemgempgbjbeaaGreatU10
import Derived.Test.YtcemgempgbjbeaaGreatU11
set_option linter.unusedSimpArgs false
set_option linter.unusedVariables false
namespace Go.AM
open Go.Proofs.Tryz
theorem dqb {p:Prop} (h:p:=by first|exact Nat.ne_of_beq_eq_false rfl|assumption|(apply asOne;(first|exact One.int|exact One.bool|assumption|exact Ints.one (by assumption)|exact Rows.one (by assumption)|exact Own.one (by assumption)|exact One.lit ⟨rfl,rfl,rfl⟩))|(apply asInts;(repeat first|assumption|exact ints_nil|apply Ints.app);done)|(apply asRows;(repeat first|assumption|exact Rows.nil|apply Rows.app);done)|(apply asScal;(first|apply allS1|apply allS2|apply allS3|apply allS4)<;>(first|exact One.int|exact One.bool|assumption|exact Ints.one (by assumption)|exact Rows.one (by assumption)|exact Own.one (by assumption)|exact One.lit ⟨rfl,rfl,rfl⟩))|exact litT rfl|exact litF rfl|omega|(simp only [List.length_append,List.length_cons,List.length_nil,List.length_set,List.length_reverse];first|done|omega)|fail):p:=h
theorem run_clone {base:Nat} {h:Heap} {v:AVal} {l:List Int} (hI:Ints h v l) (hs:Small l):callL prog raw base (.fn 137 [] []) [v] h=some (cloneV v h.length l,h++cloneH v l):=by
 have e:=hI.eqnil (t:=35) Fc.un35
 have hlen:l.length<1073741824:=hs.1
 have ha:=fun base=>append_emp (base:=base) hI (by omega) Fc.el35
 refine callL_run func137 rfl rfl ?_
 cases hn:nilB v with
 | true =>
  rw [hn] at e
  have hsp:=@Nat.succ_ne_zero;repeat' (first|simp (disch:=first|exact dqb|fail) only [go_sem,hsp,e]|refine WP_drw ?_|refine cnd_intro (fun hsp=>?_) fun hsp=>?_)
  rw [cloneV,cloneH,if_pos hn,if_pos hn,List.append_nil]
  exact compact_plain' rfl
 | false =>
  rw [hn] at e
  have hsp:=@Nat.succ_ne_zero;repeat' (first|simp (disch:=first|exact dqb|fail) only [go_sem,hsp,e,bs_emp Fc.el35,ha]|refine WP_drw ?_|refine cnd_intro (fun hsp=>?_) fun hsp=>?_)
  rw [cloneV,cloneH,if_neg (by simp [hn]),if_neg (by simp [hn])]
  cases l with
  | nil=>simp only [newV_nil,newH_nil,List.append_nil];exact compact_plain' rfl
  | cons x xs =>
   simp only [newV_cons,newH_cons]
   exact fin_row (j:=0) (by simp) rfl (ints_plain _) rfl rfl
theorem run_nan {base:Nat} {h:Heap} {x:Int}:callL prog raw base (.fn 279 [] []) [.int .i64 x] h=some (.bool false,h):=by
 have t1:(x=x)=True:=eq_true rfl
 refine callL_run func279 rfl rfl ?_
 have hsp:=@Nat.succ_ne_zero;repeat' (first|simp (disch:=first|exact dqb|fail) only [go_sem,hsp,t1,decide_not]|refine WP_drw ?_|refine cnd_intro (fun hsp=>?_) fun hsp=>?_)
 exact fB rfl
attribute [go_sem] run_nan
theorem run_less {base:Nat} {h:Heap} {x y:Int}:callL prog raw base (.fn 235 [] []) [.int .i64 x,.int .i64 y] h=some (.bool (decide (x<y)),h):=by
 refine callL_run func235 rfl rfl ?_
 have hsp:=@Nat.succ_ne_zero;repeat' (first|simp (disch:=first|exact dqb|fail) only [go_sem,hsp]|refine WP_drw ?_|refine cnd_intro (fun hsp=>?_) fun hsp=>?_)
 exact fB rfl
attribute [go_sem] run_less
theorem run_equal {base:Nat} {h:Heap} {a b:AVal} {l m:List Int} (ha:Ints h a l) (hb:Ints h b m):callL prog raw base (.fn 41 [] []) [a,b] h=some (.bool (decide (l=m)),h):=by
 have hl:=ha.1.1
 refine callL_run func41 rfl rfl ?_
 by_cases hlm:l.length=m.length
 ·have t1:((l.length:Int)=(m.length:Int))=True:=eq_true (by omega)
  have hsp:=@Nat.succ_ne_zero;repeat' (first|simp (disch:=first|exact dqb|fail) only [go_sem,hsp,t1]|refine WP_drw ?_|refine cnd_intro (fun hsp=>?_) fun hsp=>?_)
  refine WP_loop (fun σ=>∃ n:Nat,σ.fr 13=.int .i64 (n:Int)∧σ.fr 0=a∧σ.fr 1=b∧σ.fr 12=.int .i64 (l.length:Int)∧σ.h=h∧n≤l.length∧(∀ j,j<n→l.getD j 0=m.getD j 0)) (fun σ=>match σ.fr 13 with|.int _ x=>(((l.length:Nat):Int)-x).toNat|_=>0) ?_ ?_
  ·refine ⟨0,?_,?_,?_,?_,?_,by omega,?_⟩
   iterate 5 focus (first|rfl|(simp (disch:=first|exact dqb|fail) only [go_sem,Int.natCast_zero];first|done|rfl))
   intro j hj;omega
  ·rintro ⟨fr,hp⟩ ⟨n,r13,r0,r1,r12,rh,hi,hP⟩
   dsimp only at r13 r0 r1 r12 rh hi hP
   subst rh
   by_cases hn:n<l.length
   ·have hlt:((n:Int)<(l.length:Int))=True:=eq_true (by omega)
    have hn2:n<m.length:=by omega
    by_cases he:l.getD n 0=m.getD n 0
    ·have t2:(l.getD n 0=m.getD n 0)=True:=eq_true he
     have hsp:=@Nat.succ_ne_zero;repeat' (first|simp (disch:=first|exact dqb|fail) only [go_sem,hsp,r13,r0,r1,r12,hlt,t2]|refine WP_drw ?_|refine cnd_intro (fun hsp=>?_) fun hsp=>?_)
     refine ⟨⟨n+1,by simp,by omega,fun j hj=>?_⟩,by omega⟩
     by_cases e:j=n
     ·subst e;exact he
     ·exact hP j (by omega)
    ·have t2:(l.getD n 0=m.getD n 0)=False:=eq_false he
     have hsp:=@Nat.succ_ne_zero;repeat' (first|simp (disch:=first|exact dqb|fail) only [go_sem,hsp,r13,r0,r1,r12,hlt,t2]|refine WP_drw ?_|refine cnd_intro (fun hsp=>?_) fun hsp=>?_)
     exact fB (decide_eq_false fun e=>he (by rw [e])).symm
   ·have hlt:((n:Int)<(l.length:Int))=False:=eq_false (by omega)
    have hsp:=@Nat.succ_ne_zero;repeat' (first|simp (disch:=first|exact dqb|fail) only [go_sem,hsp,r13,r0,r1,r12,hlt]|refine WP_drw ?_|refine cnd_intro (fun hsp=>?_) fun hsp=>?_)
    refine fB (decide_eq_true ?_).symm
    exact lst_ext hlm fun i hi=>hP i (by omega)
 ·have t1:((l.length:Int)=(m.length:Int))=False:=eq_false (by omega)
  have hsp:=@Nat.succ_ne_zero;repeat' (first|simp (disch:=first|exact dqb|fail) only [go_sem,hsp,t1]|refine WP_drw ?_|refine cnd_intro (fun hsp=>?_) fun hsp=>?_)
  exact fB (decide_eq_false fun e=>hlm (by rw [e])).symm
attribute [go_sem] run_equal
theorem run_eqI {base:Nat} {h:Heap} {a b:AVal} {l m:List Int} (ha:Ints h a l) (hb:Ints h b m):callL prog raw base (.fn 55 [] []) [a,b] h=some (.bool (decide (l=m)),h):=by
 refine callL_run func55 rfl rfl ?_
 have hsp:=@Nat.succ_ne_zero;repeat' (first|simp (disch:=first|exact dqb|fail) only [go_sem,hsp]|refine WP_drw ?_|refine cnd_intro (fun hsp=>?_) fun hsp=>?_)
 exact fB rfl
attribute [go_sem] run_eqI
end Go.AM
namespace Go.AM
open Go.Proofs.Tryz
theorem dqc {p:Prop} (h:p:=by first|exact Nat.ne_of_beq_eq_false rfl|assumption|(apply asOne;(first|exact One.int|exact One.bool|assumption|exact Ints.one (by assumption)|exact Rows.one (by assumption)|exact Own.one (by assumption)|exact One.lit ⟨rfl,rfl,rfl⟩))|(apply asSp;(repeat first|assumption|apply SpAt.set|(refine SpAt.new ?_ (by (first|rfl|(simp only [List.length_append,List.length_cons,List.length_nil,List.length_set];done)|(simp only [List.length_append,List.length_cons,List.length_nil,List.length_set];omega))))|apply SpAt.app|apply Bytes.app);done)|(apply asBytes;(repeat first|assumption|apply Bytes.app);done)|(apply asInts;(repeat first|assumption|exact ints_nil|apply Ints.app);done)|(apply asRows;(repeat first|assumption|exact Rows.nil|apply Rows.app);done)|(apply asScal;(first|apply allS1|apply allS2|apply allS3|apply allS4)<;>(first|exact One.int|exact One.bool|assumption|exact Ints.one (by assumption)|exact Rows.one (by assumption)|exact Own.one (by assumption)|exact One.lit ⟨rfl,rfl,rfl⟩))|exact litT rfl|exact litF rfl|omega|(simp only [List.length_append,List.length_cons,List.length_nil,List.length_set,List.length_reverse];first|done|omega)|fail):p:=h
theorem own_len {α:Type} {E:Enc α} {e t:TypeId} {b:Nat} {H:Heap} {v:AVal} {l:List α} {zs:List AVal} (x:Own E e b H v l) (ht:elS prog t=some (e,E.z,zs)) (hl:l.length<2 ^ 60):lenOpA prog H t v=some (.int .i64 (l.length:Int)):=(x.rows hl).len ht
theorem own_ints {b:Nat} {H:Heap} {v:AVal} {l:List Int} (x:Own encI 3 b H v l) (hs:Small l):Ints H v l:=(x.rows (by have:=hs.1;omega)).ints hs.2
theorem splice_at:∀ (vs c pre:List AVal),c.length=vs.length→splice (pre++c) pre.length vs=pre++vs
 | [],c,pre,h=>by rw [List.eq_nil_of_length_eq_zero h];rfl
 | v :: vs,[],pre,h=>by simp at h
 | v :: vs,x :: c,pre,h=>by
  rw [splice,List.set_append_right _ _ (Nat.le_refl _),Nat.sub_self,List.set_cons_zero]
  have:=splice_at vs c (pre++[v]) (by simpa using h)
  simpa using this
theorem splice_all {vs c:List AVal} (h:c.length=vs.length):splice c 0 vs=vs:=by simpa using splice_at vs c [] h
def OwnE {α:Type} (E:Enc α) (e:TypeId) (b:Nat) (H:Heap) (v:AVal) (l:List α):Prop:=Own E e b H v l ∨ (v=.emp∧l=[])
section
variable {α:Type} {E:Enc α} {e e2 t:TypeId} {b base:Nat} {H H' A:Heap} {v x:AVal} {l:List α} {zs:List AVal}
theorem OwnE.ext (y:OwnE E e b H v l) (q:Ext H H'):OwnE E e b H' v l:=y.imp (fun z=>z.ext q) id
theorem OwnE.setBox {k:ABlk} {a:Nat} {c:List AVal} {t:TypeId} {ro:Bool} {u:Nat} (y:OwnE E e b H v l) (hg:H[a]?=some ⟨.cells c t false ro,u⟩):OwnE E e b (H.set a k) v l:=y.imp (fun z=>z.setBox hg) id
theorem OwnE.low {b':Nat} (y:OwnE E e b H v l) (hb:b'≤b):OwnE E e b' H v l:=y.imp (fun z=>z.low hb) id
theorem OwnE.one (y:OwnE E e b H v l):One v:=by
 rcases y with y|⟨rfl,_⟩
 ·exact y.one
 ·exact ⟨rfl,rfl,rfl⟩
theorem OwnE.rows (y:OwnE E e b H v l) (hl:l.length<2 ^ 60):Rows E H v l:=by
 rcases y with y|⟨rfl,rfl⟩
 ·exact y.rows hl
 ·exact ⟨hl,.inr (.inl ⟨rfl,rfl⟩)⟩
theorem app_fill {n:Nat} (hR:Rows E A x l) (ht:elS prog t=some (e,E.z,zs)) (hz:zs.length=E.z) (hs:∀ y,(E.cells y).all AVal.scalar=true) (hn:n=l.length) (hb:base≤A.length) :
  appendA prog base (A++[⟨.cells (repCells zs n) e true false,0⟩]) t (.slice (some ⟨A.length,0,0⟩) 0 n) x=some (.slice (some ⟨A.length,0,0⟩) n n,A++[rowE E e l 0]):=by
 subst hn
 have hR':=hR.app (T:=[⟨.cells (repCells zs l.length) e true false,0⟩])
 have hc:(repCells zs l.length).length=(flat E l).length:=by rw [repCells_length,flat_len,hz]
 simp only [appendA,ht,hR'.lenA,hR'.firstN,flat_scalar hs,if_true,Nat.zero_add,Nat.le_refl,storeN,ARef.add,Nat.zero_mul,Nat.add_zero]
 rw [List.getElem?_append_right (Nat.le_refl _),Nat.sub_self,List.getElem?_cons_zero]
 simp only
 rw [if_pos ⟨trivial,by rw [hc];omega,trivial,.inl hb⟩,List.set_append_right _ _ (Nat.le_refl _),Nat.sub_self,splice_all hc]
 rfl
theorem app_none (hR:Rows E A x []) (ht:elS prog t=some (e,E.z,zs)):appendA prog base A t .emp x=some (.emp,A):=by
 have h1:=hR.lenA
 have h2:=hR.firstN
 simp only [flat_nil,List.length_nil] at h1 h2
 simp only [appendA,ht,h1,h2,List.all_nil,if_true]
end
theorem mk_room {t e:TypeId} {z:Nat} {zs:List AVal} {h:Heap} {n:Nat} (ht:elS prog t=some (e,z,zs)) (h0:0<n) (hn:n<4294967296):makeSliceA prog h t (.int .i64 0) (.int .i64 (n:Int))=some (.slice (some ⟨h.length,0,0⟩) 0 n,h++[⟨.cells (repCells zs n) e true false,0⟩]):=by
 simp only [makeSliceA,ht]
 rw [if_pos ⟨by omega,by omega,by omega⟩,if_neg (by omega)]
 simp
theorem mk_none {t e:TypeId} {z:Nat} {zs:List AVal} {h:Heap} (ht:elS prog t=some (e,z,zs)):makeSliceA prog h t (.int .i64 0) (.int .i64 0)=some (.emp,h):=by
 simp [makeSliceA,ht]
theorem run_dupI {base:Nat} {h:Heap} {v:AVal} {l:List Int} (hb:base≤h.length) (hI:Ints h v l) (hl:l.length≤1000) :
  Ret prog raw base (.fn 56 [] []) [v] h (fun w H=>Ext h H∧OwnE encI 3 h.length H w l):=by
 have ho:=hI.one
 refine ret_raw func56 rfl (by kernel_rfl) ?_
 by_cases hl0:l=[]
 ·subst hl0
  have ha:=fun base=>app_none (base:=base) hI.rows Fc.el35
  have hsp:=@Nat.succ_ne_zero;repeat' (first|simp (disch:=first|exact dqc|fail) only [go_sem,hsp,mk_none Fc.el35,ha,List.length_nil,Int.natCast_zero]|refine WP_drw ?_|refine cnd_intro (fun hsp=>?_) fun hsp=>?_)
  exact ⟨.refl,.inr ⟨rfl,rfl⟩⟩
 ·have hl1:0<l.length:=List.length_pos_iff.2 hl0
  have hm:=mk_room (h:=h) (n:=l.length) Fc.el35 hl1 (by omega)
  have ha:=app_fill (base:=base) hI.rows Fc.el35 rfl encI_sc rfl hb
  have hsp:=@Nat.succ_ne_zero;repeat' (first|simp (disch:=first|exact dqc|fail) only [go_sem,hsp,hm,ha]|refine WP_drw ?_|refine cnd_intro (fun hsp=>?_) fun hsp=>?_)
  exact ⟨.app .refl,.inl (.inr ⟨h.length,0,rfl,get_eq rfl,Nat.le_refl _,hl1⟩)⟩
theorem SpAt.ext {h H:Heap} {id:Nat} {v:AVal} {silk:List Int} {k:Nat} (x:SpAt h id v silk k) (e:Ext h H):SpAt H id v silk k:=by
 obtain ⟨t,rfl⟩:=e
 exact x.app
def SpE (h:Heap) (id:Nat) (v:AVal) (silk:List Int) (k:Nat) (H:Heap):Prop:=Ext (h.set id (spB v silk k)) H
section
variable {h H H':Heap} {id k0 k k':Nat} {v:AVal} {silk:List Int}
theorem SpE.at (x:SpE h id v silk k H) (hS:SpAt h id v silk k0):SpAt H id v silk k:=hS.set.ext x
theorem SpE.refl (hS:SpAt h id v silk k):SpE h id v silk k h:=by
 unfold SpE
 have:=hS.1
 obtain ⟨hid,hg⟩:=List.getElem?_eq_some_iff.1 this
 rw [← hg,List.set_getElem_self]
 exact .refl
theorem SpE.step (x:SpE h id v silk k H) (hid:id<h.length):SpE h id v silk k' (H.set id (spB v silk k')):=by
 have:=Ext.set2 (k:=spB v silk k') x (i:=id) (by simpa using hid)
 unfold SpE
 rwa [List.set_set] at this
theorem SpE.ext (x:SpE h id v silk k H) (e:Ext H H'):SpE h id v silk k H':=Ext.trans x e
theorem SpE.app {T:Heap} (x:SpE h id v silk k H):SpE h id v silk k (H++T):=x.ext (.app .refl)
theorem SpE.len (x:SpE h id v silk k H):h.length≤H.length:=by have:=Ext.len x;simpa using this
theorem SpE.get (x:SpE h id v silk k H) {i:Nat} {b:ABlk} (hi:i ≠ id) (hg:h[i]?=some b):H[i]?=some b:=Ext.get x (by rw [List.getElem?_set_ne (fun e=>hi e.symm)];exact hg)
theorem SpE.low {T:Heap} (x:SpE (h++T) id v silk k H) (hid:id<h.length):SpE h id v silk k H:=by
 unfold SpE at x ⊢
 rw [List.set_append_left _ _ hid] at x
 exact (Ext.app .refl).trans x
end
theorem SpE.old' {H h':Heap} {v:AVal} {silk:List Int} {k0 k:Nat} (x:SpE (H++[spB v silk k0]) H.length v silk k h'):Ext H h':=by
 unfold SpE at x
 rw [List.set_append_right _ _ (Nat.le_refl _)] at x
 exact (Ext.app .refl).trans x
theorem SpE.on {H h':Heap} {v:AVal} {silk:List Int} {id k:Nat} {G:Heap} (x:SpE H id v silk k h') (e:Ext G H) (hi:G.length≤id):Ext G h':=(e.set hi).trans x
end Go.AM
namespace Go.AM
open Go.Proofs.Tryz
def encW:Enc Wnt:=⟨5,fun w=>[.int .i64 w.lg,.int .i64 w.pr,.int .i64 w.off,.int .i64 w.fl,.int .i64 w.jn],fun _=>rfl,by decide⟩
theorem encW_sc:∀ y,(encW.cells y).all AVal.scalar=true:=fun _=>rfl
def encC:Enc Ct:=⟨3,fun c=>[.int .i64 c.w,.int .i64 c.f,.bool c.j],fun _=>rfl,by decide⟩
theorem encC_sc:∀ y,(encC.cells y).all AVal.scalar=true:=fun _=>rfl
def encS:Enc (Int × Int):=⟨2,fun s=>[.int .i64 s.1,.int .i64 s.2],fun _=>rfl,by decide⟩
theorem encS_sc:∀ y,(encS.cells y).all AVal.scalar=true:=fun _=>rfl
def RibAt (h:Heap) (v:AVal) (R:Rib):Prop:=∃ fv wv,v=.agg [.int .i64 R.L,fv,wv]∧Ints h fv R.F∧Rows encW h wv R.W
theorem RibAt.ext {h H:Heap} {v:AVal} {R:Rib} (x:RibAt h v R) (e:Ext h H):RibAt H v R:=by
 obtain ⟨fv,wv,rfl,h1,h2⟩:=x
 exact ⟨fv,wv,rfl,h1.ext e,h2.ext e⟩
abbrev ribB (L:Int) (fv wv:AVal):ABlk:=⟨.cells [.int .i64 L,fv,wv] 38 false false,0⟩
def blB (F:List Int):List AVal:=(List.range 60).map fun u:Nat=>AVal.bool (decide ((u:Int) ∈ F))
theorem blB_len {F:List Int}:(blB F).length=60:=by simp [blB]
theorem blB_at {F:List Int} {u:Nat} (hu:u<60):(blB F)[u]?=some (.bool (decide ((u:Int) ∈ F))):=by
 unfold blB
 rw [List.getElem?_map,List.getElem?_range hu];rfl
theorem blB_set {F:List Int} {u:Nat} (hu:u<60):(blB F).set u (.bool true)=blB (F++[(u:Int)]):=by
 refine List.ext_getElem? fun i=>?_
 rw [List.getElem?_set,blB_len]
 by_cases hi:i<60
 ·rw [blB_at hi,blB_at hi]
  by_cases e:u=i
  ·subst e;rw [if_pos rfl,if_pos hu];simp
  ·rw [if_neg e]
   congr 2
   refine decide_eq_decide.2 ⟨fun q=>List.mem_append.2 (.inl q),fun q=>?_⟩
   rcases List.mem_append.1 q with q|q
   ·exact q
   ·simp at q;omega
 ·rw [List.getElem?_eq_none (by rw [blB_len];omega),List.getElem?_eq_none (by rw [blB_len];omega)]
  split
  ·omega
  ·rfl
def dskB (L:Int) (fv wv:AVal) (F:List Int):ABlk:=⟨.cells (.int .i64 L :: fv :: wv :: blB F) 257 false false,0⟩
def DskAt (h:Heap) (id:Nat) (R:Rib):Prop:=∃ fv wv,h[id]?=some (dskB R.L fv wv R.F)∧Ints h fv R.F∧Rows encW h wv R.W
theorem DskAt.ext {h H:Heap} {id:Nat} {R:Rib} (x:DskAt h id R) (e:Ext h H):DskAt H id R:=by
 obtain ⟨fv,wv,h0,h1,h2⟩:=x
 exact ⟨fv,wv,e.get h0,h1.ext e,h2.ext e⟩
theorem dsk_ld0 {L:Int} {fv wv:AVal} {F:List Int} {z:Nat}:ldB (some (false,z)) (some (dskB L fv wv F)) 0 0=some (.int .i64 L):=by
 unfold dskB;rw [ldB_cell];rfl
theorem dsk_ld2 {L:Int} {fv wv:AVal} {F:List Int} {z:Nat}:ldB (some (false,z)) (some (dskB L fv wv F)) 0 2=some wv:=by
 unfold dskB;rw [ldB_cell];rfl
theorem dsk_ldu {L:Int} {fv wv:AVal} {F:List Int} {z u:Nat} (hu:u<60):ldB (some (false,z)) (some (dskB L fv wv F)) 0 (3+u)=some (.bool (decide ((u:Int) ∈ F))):=by
 unfold dskB;rw [ldB_cell,show 3+u=u+1+1+1 by omega,List.getElem?_cons_succ,List.getElem?_cons_succ,List.getElem?_cons_succ,blB_at hu]
theorem dsk_st {L:Int} {fv wv:AVal} {F:List Int} {base d u:Nat} {K:ABlk→Heap} (hb:base≤d) (hu:u<60):stQ base d (some (dskB L fv wv F)) 0 (3+u) [.bool true] K=some (K (dskB L fv wv (F++[(u:Int)]))):=by
 unfold dskB
 rw [stQ_own hb (by simp [blB_len];omega) rfl]
 congr 2
 simp only [splice]
 rw [show 3+u=u+1+1+1 by omega,List.set_cons_succ,List.set_cons_succ,List.set_cons_succ,blB_set hu]
theorem wnt_ad {h:Heap} {wv:AVal} {W:List Wnt} {i:Nat} (hR:Rows encW h wv W) (hi:i<W.length):indexAddrA prog 36 wv (.int .i64 (i:Int))=some (elAdr wv encW.z i 0):=by
 have:=hR.addr (P:=prog) (i:=(i:Int)) Fc.el36 Fc.ar36 (by omega) (by omega)
 rwa [Int.toNat_natCast] at this
theorem wnt_ld {h:Heap} {wv:AVal} {W:List Wnt} {i:Nat} {w:Wnt} (hR:Rows encW h wv W) (hx:W[i]?=some w):loadP prog h 74 (elAdr wv encW.z i 0)=some (.agg [.int .i64 w.lg,.int .i64 w.pr,.int .i64 w.off,.int .i64 w.fl,.int .i64 w.jn]):=hR.load (P:=prog) Fc.ty74 hx
theorem wnt_f0 {h:Heap} {wv:AVal} {W:List Wnt} {i:Nat} (hR:Rows encW h wv W) (hi:i<W.length):fieldAddrA prog 74 (elAdr wv encW.z i 0) 0=some (elAdr wv encW.z i 0):=elAdr_field (P:=prog) (i:=i) (o:=0) (off:=0) (q:=false) (n:=1) hR hi (by kernel_rfl) (by decide)
theorem wnt_l0 {h:Heap} {wv:AVal} {W:List Wnt} {i:Nat} {w:Wnt} (hR:Rows encW h wv W) (hx:W[i]?=some w):loadP prog h 3 (elAdr wv encW.z i 0)=some (.int .i64 w.lg):=hR.cell (P:=prog) Fc.ty3 hx (o:=0) (a:=.int .i64 w.lg) rfl
end Go.AM
namespace Go.AM
open Go.Proofs.Tryz
def ixI (l:List Int) (x:Int):Int:=if x ∈ l then (l.idxOf x:Nat) else -1
end Go.AM
namespace Go.AM
open Go.Proofs.Tryz
theorem idxF_W {base:Nat} {h:Heap} {v g:AVal} {l:List (Wnt)} (p:Wnt→Bool) (hR:Rows encW h v l) (hg:∀ base x,x ∈ l→callL prog raw base g [.agg (encW.cells x)] h=some (.bool (p x),h)) :
  callL prog raw base (.fn 286 [] []) [v,g] h=some (.int .i64 (idx p l),h):=by
 have hb:l.length<2 ^ 60:=hR.1
 refine callL_run func286 rfl rfl ?_
 have hsp:=@Nat.succ_ne_zero;repeat' (first|simp (disch:=first|exact dqb|fail) only [go_sem,hsp,hR.len Fc.el36]|refine WP_drw ?_|refine cnd_intro (fun hsp=>?_) fun hsp=>?_)
 refine WP_loop (fun σ=>∃ n:Nat,σ.fr 8=.int .i64 (n:Int)∧σ.fr 0=v∧σ.fr 1=g∧σ.fr 7=.int .i64 (l.length:Int)∧σ.h=h∧n≤l.length∧(∀ x ∈ l.take n,p x=false)) (fun σ=>match σ.fr 8 with|.int _ x=>(((l.length:Nat):Int)-x).toNat|_=>0) ?_ ?_
 ·refine ⟨0,?_,?_,?_,?_,?_,by omega,?_⟩
  iterate 5 focus (first|rfl|(simp (disch:=first|exact dqb|fail) only [go_sem,Int.natCast_zero];first|done|rfl))
  intro x hx;simp at hx
 ·rintro ⟨fr,hp⟩ ⟨n,r8,r0,r1,r7,rh,hi,hP⟩
  dsimp only at r8 r0 r1 r7 rh hi hP
  subst rh
  by_cases hn:n<l.length
  ·have hlt:((n:Int)<(l.length:Int))=True:=eq_true (by omega)
   have hx:l[n]?=some l[n]:=List.getElem?_eq_getElem hn
   have had:=hR.addr (i:=(n:Int)) Fc.el36 Fc.ar36 (by omega) (by omega)
   rw [Int.toNat_natCast] at had
   have hld:=hR.load Fc.ty74 hx
   have hc:=fun base=>hg base l[n] (List.getElem_mem hn)
   cases hp:p l[n] with
   | true =>
    rw [hp] at hc
    have hsp:=@Nat.succ_ne_zero;repeat' (first|simp (disch:=first|exact dqb|fail) only [go_sem,hsp,r8,r0,r1,r7,hlt,had,hld,hc]|refine WP_drw ?_|refine cnd_intro (fun hsp=>?_) fun hsp=>?_)
    rw [idx_hit p hn hP hp]
    all_goals (first|refine fI ?_|refine fB ?_|refine fII ?_ ?_|refine fBI ?_ ?_|refine fIII ?_ ?_ ?_|refine fIIB ?_ ?_ ?_|skip);all_goals (try dsimp only);all_goals (try with_reducible rfl);all_goals (try omega)
   | false =>
    rw [hp] at hc
    have hsp:=@Nat.succ_ne_zero;repeat' (first|simp (disch:=first|exact dqb|fail) only [go_sem,hsp,r8,r0,r1,r7,hlt,had,hld,hc]|refine WP_drw ?_|refine cnd_intro (fun hsp=>?_) fun hsp=>?_)
    exact ⟨⟨n+1,by simp,by omega,take_next p hn hP hp⟩,by omega⟩
  ·have hlt:((n:Int)<(l.length:Int))=False:=eq_false (by omega)
   obtain rfl:n=l.length:=by omega
   have hsp:=@Nat.succ_ne_zero;repeat' (first|simp (disch:=first|exact dqb|fail) only [go_sem,hsp,r8,r0,r1,r7,hlt]|refine WP_drw ?_|refine cnd_intro (fun hsp=>?_) fun hsp=>?_)
   rw [idx_miss p hP]
   all_goals (first|refine fI ?_|refine fB ?_|refine fII ?_ ?_|refine fBI ?_ ?_|refine fIII ?_ ?_ ?_|refine fIIB ?_ ?_ ?_|skip);all_goals (try dsimp only);all_goals (try with_reducible rfl);all_goals (try omega)
theorem anyF_W {base:Nat} {h:Heap} {v g:AVal} {l:List (Wnt)} (p:Wnt→Bool) (hR:Rows encW h v l) (hg:∀ base x,x ∈ l→callL prog raw base g [.agg (encW.cells x)] h=some (.bool (p x),h)) :
  callL prog raw base (.fn 253 [] []) [v,g] h=some (.bool (l.any p),h):=by
 have hi:=fun base=>idxF_W (base:=base) p hR hg
 have h0:=idx_any p l
 refine callL_run func253 rfl rfl ?_
 have hsp:=@Nat.succ_ne_zero;repeat' (first|simp (disch:=first|exact dqb|fail) only [go_sem,hsp,hi]|refine WP_drw ?_|refine cnd_intro (fun hsp=>?_) fun hsp=>?_)
 refine fB ?_
 by_cases h1:l.any p=true
 ·rw [h1];simpa using h0.2 h1
 ·have h2:¬ 0≤idx p l:=fun h=>h1 (h0.1 h)
  simp only [Bool.not_eq_true] at h1
  rw [h1];simpa using h2
theorem not_W {base id:Nat} {h:Heap} {g:AVal} {x:Wnt} {b:Bool} (hid:h[id]?=some ⟨.cells [g] 313 false false,0⟩) (hg:∀ base T,callL prog raw base g [.agg (encW.cells x)] (h++T)=some (.bool b,h++T)) :
  callL prog raw base (.fn 254 [] [.ptr (some ⟨id,0,0⟩)]) [.agg (encW.cells x)] h=some (.bool (!b),h):=by
 have hgi:=lt_of_get hid
 simp only [encW] at hg ⊢
 refine callL_run func254 rfl rfl ?_
 have hsp:=@Nat.succ_ne_zero;repeat' (first|simp (disch:=first|exact dqb|fail) only [go_sem,hsp,hid,hg]|refine WP_drw ?_|refine cnd_intro (fun hsp=>?_) fun hsp=>?_)
 exact fB rfl
theorem every_W {base:Nat} {h:Heap} {v g:AVal} {l:List (Wnt)} (p:Wnt→Bool) (hR:Rows encW h v l) (hg:∀ base T x,x ∈ l→callL prog raw base g [.agg (encW.cells x)] (h++T)=some (.bool (p x),h++T)) (h1:One g) :
  callL prog raw base (.fn 199 [] []) [v,g] h=some (.bool (l.all p),h):=by
 have hc:=fun base=>anyF_W (base:=base) (fun x=>!p x) hR.app (fun base x hx=>not_W (x:=x) (get_eq rfl) (fun base T=>by have:=hg base ([⟨.cells [g] 313 false false,0⟩]++T) x hx;rwa [← List.append_assoc] at this))
 refine callL_run func199 rfl rfl ?_
 have hsp:=@Nat.succ_ne_zero;repeat' (first|simp (disch:=first|exact dqb|fail) only [go_sem,hsp,hc]|refine WP_drw ?_|refine cnd_intro (fun hsp=>?_) fun hsp=>?_)
 refine fB ?_
 rw [List.any_eq_not_all_not]
 simp
theorem idxF_I {base:Nat} {h:Heap} {v g:AVal} {l:List (Int)} (p:Int→Bool) (hR:Ints h v l) (hg:∀ base x,x ∈ l→callL prog raw base g [.int .i64 x] h=some (.bool (p x),h)) :
  callL prog raw base (.fn 166 [] []) [v,g] h=some (.int .i64 (idx p l),h):=by
 have hb:l.length<2 ^ 60:=hR.1.1
 refine callL_run func166 rfl rfl ?_
 have hsp:=@Nat.succ_ne_zero;repeat' (first|simp (disch:=first|exact dqb|fail) only [go_sem,hsp,lenI hR]|refine WP_drw ?_|refine cnd_intro (fun hsp=>?_) fun hsp=>?_)
 refine WP_loop (fun σ=>∃ n:Nat,σ.fr 8=.int .i64 (n:Int)∧σ.fr 0=v∧σ.fr 1=g∧σ.fr 7=.int .i64 (l.length:Int)∧σ.h=h∧n≤l.length∧(∀ x ∈ l.take n,p x=false)) (fun σ=>match σ.fr 8 with|.int _ x=>(((l.length:Nat):Int)-x).toNat|_=>0) ?_ ?_
 ·refine ⟨0,?_,?_,?_,?_,?_,by omega,?_⟩
  iterate 5 focus (first|rfl|(simp (disch:=first|exact dqb|fail) only [go_sem,Int.natCast_zero];first|done|rfl))
  intro x hx;simp at hx
 ·rintro ⟨fr,hp⟩ ⟨n,r8,r0,r1,r7,rh,hi,hP⟩
  dsimp only at r8 r0 r1 r7 rh hi hP
  subst rh
  by_cases hn:n<l.length
  ·have hlt:((n:Int)<(l.length:Int))=True:=eq_true (by omega)
   have hx:l[n]?=some l[n]:=List.getElem?_eq_getElem hn
   have had:=adrI (i:=(n:Int)) (by omega) hR (by omega)
   rw [Int.toNat_natCast] at had
   have hld:=loadI hR hn
   rw [getD_at hn] at hld
   have hc:=fun base=>hg base l[n] (List.getElem_mem hn)
   cases hp:p l[n] with
   | true =>
    rw [hp] at hc
    have hsp:=@Nat.succ_ne_zero;repeat' (first|simp (disch:=first|exact dqb|fail) only [go_sem,hsp,r8,r0,r1,r7,hlt,had,hld,hc]|refine WP_drw ?_|refine cnd_intro (fun hsp=>?_) fun hsp=>?_)
    rw [idx_hit p hn hP hp]
    all_goals (first|refine fI ?_|refine fB ?_|refine fII ?_ ?_|refine fBI ?_ ?_|refine fIII ?_ ?_ ?_|refine fIIB ?_ ?_ ?_|skip);all_goals (try dsimp only);all_goals (try with_reducible rfl);all_goals (try omega)
   | false =>
    rw [hp] at hc
    have hsp:=@Nat.succ_ne_zero;repeat' (first|simp (disch:=first|exact dqb|fail) only [go_sem,hsp,r8,r0,r1,r7,hlt,had,hld,hc]|refine WP_drw ?_|refine cnd_intro (fun hsp=>?_) fun hsp=>?_)
    exact ⟨⟨n+1,by simp,by omega,take_next p hn hP hp⟩,by omega⟩
  ·have hlt:((n:Int)<(l.length:Int))=False:=eq_false (by omega)
   obtain rfl:n=l.length:=by omega
   have hsp:=@Nat.succ_ne_zero;repeat' (first|simp (disch:=first|exact dqb|fail) only [go_sem,hsp,r8,r0,r1,r7,hlt]|refine WP_drw ?_|refine cnd_intro (fun hsp=>?_) fun hsp=>?_)
   rw [idx_miss p hP]
   all_goals (first|refine fI ?_|refine fB ?_|refine fII ?_ ?_|refine fBI ?_ ?_|refine fIII ?_ ?_ ?_|refine fIIB ?_ ?_ ?_|skip);all_goals (try dsimp only);all_goals (try with_reducible rfl);all_goals (try omega)
theorem anyF_I {base:Nat} {h:Heap} {v g:AVal} {l:List (Int)} (p:Int→Bool) (hR:Ints h v l) (hg:∀ base x,x ∈ l→callL prog raw base g [.int .i64 x] h=some (.bool (p x),h)) :
  callL prog raw base (.fn 76 [] []) [v,g] h=some (.bool (l.any p),h):=by
 have hi:=fun base=>idxF_I (base:=base) p hR hg
 have h0:=idx_any p l
 refine callL_run func76 rfl rfl ?_
 have hsp:=@Nat.succ_ne_zero;repeat' (first|simp (disch:=first|exact dqb|fail) only [go_sem,hsp,hi]|refine WP_drw ?_|refine cnd_intro (fun hsp=>?_) fun hsp=>?_)
 refine fB ?_
 by_cases h1:l.any p=true
 ·rw [h1];simpa using h0.2 h1
 ·have h2:¬ 0≤idx p l:=fun h=>h1 (h0.1 h)
  simp only [Bool.not_eq_true] at h1
  rw [h1];simpa using h2
theorem not_I {base id:Nat} {h:Heap} {g:AVal} {x:Int} {b:Bool} (hid:h[id]?=some ⟨.cells [g] 132 false false,0⟩) (hg:∀ base T,callL prog raw base g [.int .i64 x] (h++T)=some (.bool b,h++T)) :
  callL prog raw base (.fn 255 [] [.ptr (some ⟨id,0,0⟩)]) [.int .i64 x] h=some (.bool (!b),h):=by
 have hgi:=lt_of_get hid
 have hg0:=fun base=>hg base []
 simp only [List.append_nil] at hg0
 refine callL_run func255 rfl rfl ?_
 have hsp:=@Nat.succ_ne_zero;repeat' (first|simp (disch:=first|exact dqb|fail) only [go_sem,hsp,hid,hg0]|refine WP_drw ?_|refine cnd_intro (fun hsp=>?_) fun hsp=>?_)
 exact fB rfl
theorem every_I {base:Nat} {h:Heap} {v g:AVal} {l:List (Int)} (p:Int→Bool) (hR:Ints h v l) (hg:∀ base T x,x ∈ l→callL prog raw base g [.int .i64 x] (h++T)=some (.bool (p x),h++T)) (h1:One g) :
  callL prog raw base (.fn 201 [] []) [v,g] h=some (.bool (l.all p),h):=by
 have hc:=fun base=>anyF_I (base:=base) (fun x=>!p x) hR.app (fun base x hx=>not_I (x:=x) (get_eq rfl) (fun base T=>by have:=hg base ([⟨.cells [g] 132 false false,0⟩]++T) x hx;rwa [← List.append_assoc] at this))
 refine callL_run func201 rfl rfl ?_
 have hsp:=@Nat.succ_ne_zero;repeat' (first|simp (disch:=first|exact dqb|fail) only [go_sem,hsp,hc]|refine WP_drw ?_|refine cnd_intro (fun hsp=>?_) fun hsp=>?_)
 refine fB ?_
 rw [List.any_eq_not_all_not]
 simp
end Go.AM
namespace Go.AM
open Go.Proofs.Tryz
def sortB (l:List Int):Bool:=decide (∀ i,i<l.length→0<i→l.getD (i-1) 0≤l.getD i 0)
theorem run_sorted {base:Nat} {h:Heap} {v:AVal} {l:List Int} (hI:Ints h v l):callL prog raw base (.fn 187 [] []) [v] h=some (.bool (sortB l),h):=by
 have hl:=hI.1.1
 refine callL_run func187 rfl rfl ?_
 have hsp:=@Nat.succ_ne_zero;repeat' (first|simp (disch:=first|exact dqb|fail) only [go_sem,hsp]|refine WP_drw ?_|refine cnd_intro (fun hsp=>?_) fun hsp=>?_)
 refine WP_loop (fun σ=>∃ c:Int,σ.fr 3=.int .i64 c∧σ.fr 0=v∧σ.h=h∧-1≤c∧c<l.length∧∀ i:Nat,c<i→i<l.length→l.getD (i-1) 0≤l.getD i 0) (fun σ=>match σ.fr 3 with|.int _ x=>(x+1).toNat|_=>0) ?_ ?_
 ·refine ⟨(l.length:Int)-1,?_,?_,rfl,by omega,by omega,fun i h1 h2=>by omega⟩
  ·simp (disch:=first|exact dqb|fail) only [go_sem]
  ·simp (disch:=first|exact dqb|fail) only [go_sem]
 ·rintro ⟨fr,hp⟩ ⟨c,r3,r0,rh,hc1,hc2,hP⟩
  dsimp only at r3 r0 rh
  subst rh
  by_cases hc:c > 0
  ·have hlt:(c > 0)=True:=eq_true hc
   obtain ⟨n,rfl⟩:=Int.eq_ofNat_of_zero_le (show 0≤c by omega)
   have e1:((n:Int)-1).toNat=n-1:=by omega
   by_cases hs:l.getD n 0<l.getD (n-1) 0
   ·have t2:(l.getD n 0<l.getD (n-1) 0)=True:=eq_true hs
    have hsp:=@Nat.succ_ne_zero;repeat' (first|simp (disch:=first|exact dqb|fail) only [go_sem,hsp,r3,r0,hlt,e1,t2]|refine WP_drw ?_|refine cnd_intro (fun hsp=>?_) fun hsp=>?_)
    refine fB (decide_eq_false fun hh=>?_).symm
    have:=hh n (by omega) (by omega)
    omega
   ·have t2:(l.getD n 0<l.getD (n-1) 0)=False:=eq_false hs
    have hsp:=@Nat.succ_ne_zero;repeat' (first|simp (disch:=first|exact dqb|fail) only [go_sem,hsp,r3,r0,hlt,e1,t2]|refine WP_drw ?_|refine cnd_intro (fun hsp=>?_) fun hsp=>?_)
    refine ⟨⟨(n:Int)-1,rfl,by omega,by omega,fun i h1 h2=>?_⟩,by omega⟩
    by_cases e:i=n
    ·subst e;omega
    ·exact hP i (by omega) h2
  ·have hlt:(c > 0)=False:=eq_false hc
   have hsp:=@Nat.succ_ne_zero;repeat' (first|simp (disch:=first|exact dqb|fail) only [go_sem,hsp,r3,r0,hlt]|refine WP_drw ?_|refine cnd_intro (fun hsp=>?_) fun hsp=>?_)
   exact fB (decide_eq_true fun i h1 h2=>hP i (by omega) h1).symm
attribute [go_sem] run_sorted
end Go.AM
namespace Go.AM
open Go.Proofs.Tryz
theorem splice_ints:∀ (z:List Int) (m:List Int) (o:Nat),∃ m',splice (ints m) o (ints z)=ints m'∧m'.length=m.length
 | [],m,o=>⟨m,rfl,rfl⟩
 | x :: z,m,o=>by
  obtain ⟨m',h1,h2⟩:=splice_ints z (m.set o x) (o+1)
  refine ⟨m',?_,by rw [h2,List.length_set]⟩
  show splice ((ints m).set o (.int .i64 x)) (o+1) (ints z)=ints m'
  rw [ints_set];exact h1
theorem clr_part {base id o n k:Nat} {H:Heap} {m:List Int} (hg:H[id]?=some (rowB m 0)) (hn:0<n) (ho:o+n≤m.length):∃ m':List Int,m'.length=m.length∧clearA prog base H 35 (.slice (some ⟨id,0,o⟩) n k)=some (.tuple [],H.set id (rowB m' 0)):=by
 have hrep:∀ j,repCells [AVal.int .i64 0] j=ints (lst (fun _=>0) j):=fun j=>by
  induction j with
  | zero=>rfl
  | succ j ih =>
   rw [repCells,ih]
   simp [ints,lst,List.range_succ_eq_map,List.map_map]
 obtain ⟨m',h1,h2⟩:=splice_ints (lst (fun _=>0) n) m o
 refine ⟨m',h2,?_⟩
 cases n with
 | zero=>omega
 | succ n =>
  simp only [clearA,Fc.el35,hrep,store_eq,hg,rowB,stQ]
  rw [if_pos ⟨trivial,by rw [ints_length,ints_length,lst_len];exact ho,ints_scalar _,.inr (ints_bare _)⟩,h1]
theorem sl_from {id ver o n k:Nat} {lo:Int} (h0:0≤lo) (h1:lo≤n) (h2:n≤k):sliceA prog 35 (.slice (some ⟨id,ver,o⟩) n k) (some (.int .i64 lo)) none none=some (.slice (some ⟨id,ver,o+lo.toNat⟩) (n-lo.toNat) (k-lo.toNat)):=by
 have e1:lo≤(n:Int):=h1
 simp [sliceA,Fc.ar35,Fc.el35,optB,boundA,ARef.add,h0,e1]
theorem sl_to {id ver o n k:Nat} {hi:Int} (h0:0≤hi) (h1:hi≤k):sliceA prog 35 (.slice (some ⟨id,ver,o⟩) n k) none (some (.int .i64 hi)) none=some (.slice (some ⟨id,ver,o⟩) hi.toNat k):=by
 have e1:hi≤(k:Int):=h1
 simp [sliceA,Fc.ar35,Fc.el35,optB,boundA,ARef.add,h0,e1]
def nodup (l:List Int):Prop:=∀ i,i<l.length→0<i→l.getD i 0 ≠ l.getD (i-1) 0
theorem run_compact {base id:Nat} {h:Heap} {l:List Int} (hg:h[id]?=some (rowB l 0)) (hs:Small l) :
  Ret prog raw base (.fn 93 [] []) [.slice (some ⟨id,0,0⟩) l.length l.length] h (fun v H=>∃ (k:Nat) (m:List Int),v=.slice (some ⟨id,0,0⟩) k l.length∧H=h.set id (rowB m 0)∧m.length=l.length∧k≤l.length∧(k=l.length ↔ nodup l)):=by
 have hid:=lt_of_get hg
 have hl:l.length<1073741824:=hs.1
 have hself:h=h.set id (rowB l 0):=(set_id hg).symm
 refine ret_raw func93 rfl (by kernel_rfl) ?_
 by_cases h2:l.length<2
 ·have t1:((l.length:Int)<2)=True:=eq_true (by omega)
  have hsp:=@Nat.succ_ne_zero;repeat' (first|simp (disch:=first|exact dqb|fail) only [go_sem,hsp,t1,Fc.ln35]|refine WP_drw ?_|refine cnd_intro (fun hsp=>?_) fun hsp=>?_)
  exact ⟨l.length,l,rfl,hself,rfl,Nat.le_refl _,⟨fun _ i h1 h2=>by omega,fun _=>rfl⟩⟩
 ·have t1:((l.length:Int)<2)=False:=eq_false (by omega)
  have hsp:=@Nat.succ_ne_zero;repeat' (first|simp (disch:=first|exact dqb|fail) only [go_sem,hsp,t1,Fc.ln35]|refine WP_drw ?_|refine cnd_intro (fun hsp=>?_) fun hsp=>?_)
  refine WP_loop (fun σ=>∃ i:Nat,σ.fr 3=.int .i64 (i:Int)∧σ.fr 0=.slice (some ⟨id,0,0⟩) l.length l.length∧σ.h=h∧i≤l.length∧(1≤i∧∀ j,j<i→0<j→l.getD j 0 ≠ l.getD (j-1) 0)) (fun σ=>match σ.fr 3 with|.int _ x=>(((l.length:Nat):Int)-x).toNat|_=>0) ?_ ?_
  ·refine ⟨1,?_,?_,?_,by omega,?_⟩
   iterate 3 focus (first|rfl|(simp (disch:=first|exact dqb|fail) only [go_sem,Int.natCast_zero];first|done|rfl))
   exact ⟨Nat.le_refl _,fun j h1 h2=>by omega⟩
  ·rintro ⟨fr,hp⟩ ⟨i,r3,r0,rh,hi,hP⟩
   dsimp only at r3 r0 rh hi hP
   subst rh
   obtain ⟨hi1,hP⟩:=hP
   by_cases hn:i<l.length
   ·have hlt:((i:Int)<(l.length:Int))=True:=eq_true (by omega)
    have e1:((i:Int)-1).toNat=i-1:=by omega
    by_cases he:l.getD i 0=l.getD (i-1) 0
    ·have t2:(l.getD i 0=l.getD (i-1) 0)=True:=eq_true he
     have hsp:=@Nat.succ_ne_zero;repeat' (first|simp (disch:=first|exact dqb|fail) only [go_sem,hsp,r3,r0,hlt,t2,e1,hg,sl_from,Fc.ln35,Fc.as35]|refine WP_drw ?_|refine cnd_intro (fun hsp=>?_) fun hsp=>?_)
     refine WP_loop (fun σ=>∃ (k2 k:Nat) (m:List Int),σ.fr 5=.int .i64 (k2:Int)∧σ.fr 3=.int .i64 (k:Int)∧σ.fr 0=.slice (some ⟨id,0,0⟩) l.length l.length∧σ.fr 4=.slice (some ⟨id,0,i⟩) (l.length-i) (l.length-i)∧σ.h=hp.set id (rowB m 0)∧m.length=l.length∧(1≤k2∧k2≤l.length-i)∧(i≤k∧k+1≤i+k2)) (fun σ=>match σ.fr 5 with|.int _ x=>(((l.length-i:Nat):Int)-x).toNat|_=>0) ?_ ?_
     ·refine ⟨1,i,l,?_,?_,?_,?_,hself,rfl,by omega,by omega⟩
      ·simp (disch:=first|exact dqb|fail) only [go_sem]
      ·simp (disch:=first|exact dqb|fail) only [go_sem,r3,r0]
      ·simp (disch:=first|exact dqb|fail) only [go_sem,r3,r0]
      ·simp (disch:=first|exact dqb|fail) only [go_sem,r3,r0]
     ·rintro ⟨fr2,hp2⟩ ⟨k2,k,m,q5,q3,q0,q4,rh2,hm,hk2,hk⟩
      dsimp only at q5 q3 q0 q4 rh2
      subst rh2
      have hgm:(hp.set id (rowB m 0))[id]?=some (rowB m 0):=by rw [List.getElem?_set_self hid]
      by_cases hn2:k2<l.length-i
      ·have hlt2:((k2:Int)<((l.length-i:Nat):Int))=True:=eq_true (by omega)
       have e2:((k2:Int)-1).toNat=k2-1:=by omega
       by_cases he2:m.getD (i+k2) 0=m.getD (i+(k2-1)) 0
       ·have t3:(m.getD (i+k2) 0=m.getD (i+(k2-1)) 0)=True:=eq_true he2
        have hsp:=@Nat.succ_ne_zero;repeat' (first|simp (disch:=first|exact dqb|fail) only [go_sem,hsp,q5,q3,q0,q4,hlt2,t3,e2,hgm,hid,Fc.ln35,Fc.as35]|refine WP_drw ?_|refine cnd_intro (fun hsp=>?_) fun hsp=>?_)
        exact ⟨⟨k2+1,k,m,by simp,rfl,rfl,hm,by omega,by omega⟩,by omega⟩
       ·have t3:(m.getD (i+k2) 0=m.getD (i+(k2-1)) 0)=False:=eq_false he2
        have hsp:=@Nat.succ_ne_zero;repeat' (first|simp (disch:=first|exact dqb|fail) only [go_sem,hsp,q5,q3,q0,q4,hlt2,t3,e2,hgm,hid,Fc.ln35,Fc.as35]|refine WP_drw ?_|refine cnd_intro (fun hsp=>?_) fun hsp=>?_)
        exact ⟨⟨k2+1,k+1,m.set k (m.getD (i+k2) 0),by simp,by simp,by first|rfl|exact List.set_set ..,by rw [List.length_set];exact hm,by omega,by omega⟩,by omega⟩
      ·have hlt2:((k2:Int)<((l.length-i:Nat):Int))=False:=eq_false (by omega)
       obtain ⟨m',hm',hcl⟩:=clr_part (base:=base) (o:=k) (n:=l.length-k) (k:=l.length-k) hgm (by omega) (by omega)
       have hsp:=@Nat.succ_ne_zero;repeat' (first|simp (disch:=first|exact dqb|fail) only [go_sem,hsp,q5,q3,q0,q4,hlt2,sl_from,sl_to,hcl,Fc.ln35]|refine WP_drw ?_|refine cnd_intro (fun hsp=>?_) fun hsp=>?_)
       exact ⟨k,m',rfl,by first|rfl|exact List.set_set ..,by rw [hm',hm],by omega,⟨fun e=>by omega,fun hd=>absurd he (hd i hn (by omega))⟩⟩
    ·have t2:(l.getD i 0=l.getD (i-1) 0)=False:=eq_false he
     have hsp:=@Nat.succ_ne_zero;repeat' (first|simp (disch:=first|exact dqb|fail) only [go_sem,hsp,r3,r0,hlt,t2,e1,hg,Fc.ln35,Fc.as35]|refine WP_drw ?_|refine cnd_intro (fun hsp=>?_) fun hsp=>?_)
     refine ⟨⟨i+1,by simp,by omega,by omega,fun j h1 h2=>?_⟩,by omega⟩
     by_cases e:j=i
     ·subst e;exact he
     ·exact hP j (by omega) h2
   ·have hlt:((i:Int)<(l.length:Int))=False:=eq_false (by omega)
    have hsp:=@Nat.succ_ne_zero;repeat' (first|simp (disch:=first|exact dqb|fail) only [go_sem,hsp,r3,r0,hlt,Fc.ln35]|refine WP_drw ?_|refine cnd_intro (fun hsp=>?_) fun hsp=>?_)
    exact ⟨l.length,l,rfl,hself,rfl,Nat.le_refl _,⟨fun _ j h1 h2=>hP j (by omega) h2,fun _=>rfl⟩⟩
theorem run_compact0 {base:Nat} {h:Heap} {v:AVal} {l:List Int} (hI:Ints h v l) (h2:l.length<2):Ret prog raw base (.fn 93 [] []) [v] h (fun w H=>w=v∧H=h):=by
 have t1:((l.length:Int)<2)=True:=eq_true (by omega)
 refine ret_raw func93 rfl (by kernel_rfl) ?_
 have hsp:=@Nat.succ_ne_zero;repeat' (first|simp (disch:=first|exact dqb|fail) only [go_sem,hsp,t1,lenI hI]|refine WP_drw ?_|refine cnd_intro (fun hsp=>?_) fun hsp=>?_)
def riseB (l:List Int):Bool:=decide (∀ i,i<l.length→0<i→l.getD (i-1) 0<l.getD i 0)
end Go.AM
namespace Go.AM
open Go.Proofs.Tryz
attribute [-go_sem] put_ne put_same
attribute [local go_sem ↓] put_if
theorem run_inn {base:Nat} {h:Heap} {n lo hi:Int}:callL prog raw base (.fn 198 [] []) [.int .i64 n,.int .i64 lo,.int .i64 hi] h=some (.bool (decide (lo≤n∧n≤hi)),h):=by
 refine callL_run func198 rfl rfl ?_
 by_cases h1:lo≤n
 ·have t1:(n ≥ lo)=True:=eq_true h1
  have hsp:=@Nat.succ_ne_zero;repeat' (first|simp (disch:=first|exact dqb|fail) only [go_sem,↓reduceIte,hsp,t1]|refine WP_drw ?_|refine cnd_intro (fun hsp=>?_) fun hsp=>?_)
  refine fB ?_
  simp [h1]
 ·have t1:(n ≥ lo)=False:=eq_false h1
  have hsp:=@Nat.succ_ne_zero;repeat' (first|simp (disch:=first|exact dqb|fail) only [go_sem,↓reduceIte,hsp,t1]|refine WP_drw ?_|refine cnd_intro (fun hsp=>?_) fun hsp=>?_)
  refine fB ?_
  simp [h1]
attribute [go_sem] run_inn
def mxF (n:Int) (l:List Int):Int:=l.foldl max n
theorem run_most {base:Nat} {h:Heap} {v:AVal} {l:List Int} {n:Int} (hI:Ints h v l):callL prog raw base (.fn 134 [] []) [.int .i64 n,v] h=some (.int .i64 (mxF n l),h):=by
 have hl:=hI.1.1
 have hlen:=lenI hI
 refine callL_run func134 rfl rfl ?_
 have hsp:=@Nat.succ_ne_zero;repeat' (first|simp (disch:=first|exact dqb|fail) only [go_sem,↓reduceIte,hsp,hlen]|refine WP_drw ?_|refine cnd_intro (fun hsp=>?_) fun hsp=>?_)
 refine WP_count [(0,0),(6,6),(9,16)] 0 l.length (Nat.zero_le _) (fun _ i fr h'=>fr 9=.int .i64 (i:Int)∧fr 0=.int .i64 (mxF n (l.take i))∧h'=h) ?_ ?_ ?_
 ·exact ⟨by (simp (disch:=first|exact dqb|fail) only [go_sem,↓reduceIte,Int.natCast_zero];first|done|rfl),by simp (disch:=first|exact dqb|fail) only [go_sem,↓reduceIte];rfl,rfl⟩
 ·rintro i fr H hi0 hi hA ⟨r9,r0,rfl⟩
  have p4:=hA 4 rfl
  have p7:=hA 7 rfl
  have p8:=hA 8 rfl
  try simp (disch:=first|exact dqb|fail) only [go_sem,↓reduceIte] at p4 p7 p8
  have hlt:((i:Int)<(l.length:Int))=True:=eq_true (by omega)
  have hl0:=loadI hI hi
  have ha0:=adrI (i:=(i:Int)) (by omega) hI (by omega)
  rw [Int.toNat_natCast] at ha0
  have hsp:=@Nat.succ_ne_zero;repeat' (first|simp (disch:=first|exact dqb|fail) only [go_sem,↓reduceIte,hsp,r9,r0,p4,p7,p8,hlt,ha0,hl0]|refine WP_drw ?_|refine cnd_intro (fun hsp=>?_) fun hsp=>?_)
  refine ⟨agq,by omega,?_⟩
  unfold mxF
  rw [List.take_add_one,getD_some (d:=0) hi,List.foldl_append]
  rfl
 ·rintro fr H hA ⟨r9,r0,rfl⟩
  have p4:=hA 4 rfl
  have p7:=hA 7 rfl
  have p8:=hA 8 rfl
  try simp (disch:=first|exact dqb|fail) only [go_sem,↓reduceIte] at p4 p7 p8
  have hlt:((l.length:Int)<(l.length:Int))=False:=eq_false (by omega)
  rw [List.take_length] at r0
  have hsp:=@Nat.succ_ne_zero;repeat' (first|simp (disch:=first|exact dqb|fail) only [go_sem,↓reduceIte,hsp,r9,r0,p4,p7,p8,hlt]|refine WP_drw ?_|refine cnd_intro (fun hsp=>?_) fun hsp=>?_)
  exact fI rfl
theorem run_most1 {base m:Nat} {A:Heap} {n x:Int} (hm:m=A.length) (hx:-9223372036854775808≤x∧x<9223372036854775808):callL prog raw base (.fn 134 [] []) [.int .i64 n,.slice (some ⟨m,0,0⟩) 1 1] (A++[rowB [x] 0])=some (.int .i64 (max n x),A++[rowB [x] 0]):=by
 have:=run_most (base:=base) (n:=n) (h:=A++[rowB [x] 0]) (v:=.slice (some ⟨m,0,0⟩) 1 1) (l:=[x]) (slice_row hm rfl ⟨by simp,fun y hy=>by simp at hy;rw [hy];exact hx⟩)
 rwa [show mxF n [x]=max n x from rfl] at this
section
variable {base:Nat} {h:Heap} {L x:Int} {fv wv:AVal} {W:List Wnt}
theorem run_unit (hL:-100000≤L∧L≤100000) (o1:One fv) (o2:One wv):callL prog raw base (.fn 149 [] []) [.agg [.int .i64 L,fv,wv],.int .i64 x] h=some (.bool (decide (0≤x∧x≤L-1)),h):=by
 refine callL_run func149 rfl rfl ?_
 have hsp:=@Nat.succ_ne_zero;repeat' (first|simp (disch:=first|exact dqb|fail) only [go_sem,↓reduceIte,hsp]|refine WP_drw ?_|refine cnd_intro (fun hsp=>?_) fun hsp=>?_)
 exact fB rfl
theorem run_unit' (hL:-100000≤L∧L≤100000) (o1:One fv) (o2:One wv):callL prog raw base (.fn 149 [.agg [.int .i64 L,fv,wv]] []) [.int .i64 x] h=some (.bool (decide (0≤x∧x≤L-1)),h):=by
 refine callL_run func149 rfl rfl ?_
 have hsp:=@Nat.succ_ne_zero;repeat' (first|simp (disch:=first|exact dqb|fail) only [go_sem,↓reduceIte,hsp]|refine WP_drw ?_|refine cnd_intro (fun hsp=>?_) fun hsp=>?_)
 exact fB rfl
theorem run_right {w:Wnt}:callL prog raw base (.fn 200 [] []) [.agg (encW.cells w)] h=some (.bool (wntB w),h):=by
 simp only [encW]
 unfold wntB
 refine callL_run func200 rfl rfl ?_
 by_cases c1:1≤w.lg∧w.lg≤60
 ·have t1:decide (1≤w.lg∧w.lg≤60)=true:=decide_eq_true c1
  by_cases c2:0≤w.pr∧w.pr≤100
  ·have t2:decide (0≤w.pr∧w.pr≤100)=true:=decide_eq_true c2
   by_cases c3:0≤w.off∧w.off≤20
   ·have t3:decide (0≤w.off∧w.off≤20)=true:=decide_eq_true c3
    by_cases c4:0≤w.fl∧w.fl≤4
    ·have t4:decide (0≤w.fl∧w.fl≤4)=true:=decide_eq_true c4
     have hsp:=@Nat.succ_ne_zero;repeat' (first|simp (disch:=first|exact dqb|fail) only [go_sem,↓reduceIte,hsp,t1,t2,t3,t4]|refine WP_drw ?_|refine cnd_intro (fun hsp=>?_) fun hsp=>?_)
     exact fB (by simp)
    ·have t4:decide (0≤w.fl∧w.fl≤4)=false:=decide_eq_false c4
     have hsp:=@Nat.succ_ne_zero;repeat' (first|simp (disch:=first|exact dqb|fail) only [go_sem,↓reduceIte,hsp,t1,t2,t3,t4]|refine WP_drw ?_|refine cnd_intro (fun hsp=>?_) fun hsp=>?_)
     exact fB (by simp)
   ·have t3:decide (0≤w.off∧w.off≤20)=false:=decide_eq_false c3
    have hsp:=@Nat.succ_ne_zero;repeat' (first|simp (disch:=first|exact dqb|fail) only [go_sem,↓reduceIte,hsp,t1,t2,t3]|refine WP_drw ?_|refine cnd_intro (fun hsp=>?_) fun hsp=>?_)
    exact fB (by simp)
  ·have t2:decide (0≤w.pr∧w.pr≤100)=false:=decide_eq_false c2
   have hsp:=@Nat.succ_ne_zero;repeat' (first|simp (disch:=first|exact dqb|fail) only [go_sem,↓reduceIte,hsp,t1,t2]|refine WP_drw ?_|refine cnd_intro (fun hsp=>?_) fun hsp=>?_)
   exact fB (by simp)
 ·have t1:decide (1≤w.lg∧w.lg≤60)=false:=decide_eq_false c1
  have hsp:=@Nat.succ_ne_zero;repeat' (first|simp (disch:=first|exact dqb|fail) only [go_sem,↓reduceIte,hsp,t1]|refine WP_drw ?_|refine cnd_intro (fun hsp=>?_) fun hsp=>?_)
  exact fB (by simp)
end
theorem Ints.lowR {h G:Heap} {v:AVal} {l:List Int} (hI:Ints h v l) (e:Ext h G):refsLow G.length v:=by
 rcases hI.2 with ⟨rfl,_⟩|⟨rfl,_⟩|⟨r,k,c,e1,row,ro,rfl,h2,_⟩
 ·exact refsLow_nil
 ·rfl
 ·exact refsLow_slice (lt_of_get (e.get h2))
theorem rise_iff {l:List Int}:riseB l=true ↔ l.Pairwise (·<·):=by
 unfold riseB
 rw [decide_eq_true_iff,List.pairwise_iff_getElem]
 constructor
 ·intro h
  have main:∀ (d i:Nat) (hi:i<l.length) (hj:i+d+1<l.length),l[i]<l[i+d+1]:=by
   intro d
   induction d with
   | zero =>
    intro i hi hj
    have:=h (i+0+1) hj (by omega)
    rw [getD_at hj,getD_at (by omega)] at this
    exact this
   | succ d ih =>
    intro i hi hj
    have h1:=ih i hi (by omega)
    have h2:=h (i+(d+1)+1) hj (by omega)
    rw [getD_at hj,getD_at (by omega)] at h2
    exact Int.lt_trans h1 h2
  intro i j hi hj hij
  have:=main (j-i-1) i hi (by omega)
  simpa [show i+(j-i-1)+1=j by omega] using this
 ·intro h i hi h0
  rw [getD_at hi,getD_at (by omega)]
  exact h _ _ (by omega) hi (by omega)
set_option maxHeartbeats 2000000 in
theorem stN2 {base:Nat} {l:List Oper} {s:St} {Q:AExit→St→Prop}:WP prog raw base (.region 8 l.toArray true) s Q=WPS prog raw base (.region 8 l.toArray true) s Q:=WP_stop
attribute [local go_sem ↓ 3000] stN2
theorem run_Check {base:Nat} {h:Heap} {v:AVal} {R:Rib} (hR:RibAt h v R) (hsm:R.F.length≤1048576):callL prog raw base (.fn 129 [] []) [v] h=some (.int .i64 (chkR R),h):=by
 obtain ⟨fv,wv,rfl,hF,hW⟩:=hR
 have o1:=hF.one
 have o2:=hW.one
 obtain ⟨G0,eG0⟩:∃ G0,G0=h++[ribB R.L fv wv]:=⟨_,rfl⟩
 have x0:Ext h G0:=by rw [eG0];exact .app .refl
 have g0:G0[h.length]?=some (ribB R.L fv wv):=by rw [eG0];exact get_eq rfl
 have l0:G0.length=h.length+1:=by rw [eG0];simp
 have iF:=hF.ext x0
 have iW:=hW.ext x0
 have hn1:=lenI iF
 have hn2:=iW.len (P:=prog) Fc.el36
 have ev1:=fun base=>every_W (base:=base) (g:=.fn 200 [] []) wntB iW (fun base T x _=>run_right) ⟨rfl,rfl,rfl⟩
 unfold ribB at eG0 g0
 refine callL_run func129 rfl rfl ?_
 by_cases c0:1≤R.L∧R.L≤60
 ·have t0:decide (1≤R.L∧R.L≤60)=true:=decide_eq_true c0
  by_cases c1:(R.F.length:Int) > 12
  ·have t1:((R.F.length:Int) > 12)=True:=eq_true c1
   have hsp:=@Nat.succ_ne_zero;repeat' (first|simp (disch:=first|exact dqb|fail) only [go_sem,↓reduceIte,hsp,← eG0,g0,t0,hn1,t1]|refine WP_drw ?_|refine cnd_intro (fun hsp=>?_) fun hsp=>?_)
   refine fI ?_ x0
   unfold chkR
   rw [if_pos (.inr (.inl c1))]
  ·have t1:((R.F.length:Int) > 12)=False:=eq_false c1
   by_cases c2:(R.W.length:Int) > 6
   ·have t2:((R.W.length:Int) > 6)=True:=eq_true c2
    have hsp:=@Nat.succ_ne_zero;repeat' (first|simp (disch:=first|exact dqb|fail) only [go_sem,↓reduceIte,hsp,← eG0,g0,t0,hn1,t1,hn2,t2]|refine WP_drw ?_|refine cnd_intro (fun hsp=>?_) fun hsp=>?_)
    refine fI ?_ x0
    unfold chkR
    rw [if_pos (.inr (.inr c2))]
   ·have t2:((R.W.length:Int) > 6)=False:=eq_false c2
    have u0:¬ (¬ (1≤R.L∧R.L≤60) ∨ (R.F.length:Int) > 12 ∨ (R.W.length:Int) > 6):=by omega
    have ev2:=fun base=>every_I (base:=base) (g:=.fn 149 [.agg [.int .i64 R.L,fv,wv]] []) (fun x=>decide (0≤x∧x≤R.L-1)) iF (fun base T x _=>run_unit' (by omega) o1 o2) ⟨rfl,rfl,rfl⟩
    cases c3:R.W.all wntB with
    | false =>
     rw [c3] at ev1
     have hsp:=@Nat.succ_ne_zero;repeat' (first|simp (disch:=first|exact dqb|fail) only [go_sem,↓reduceIte,hsp,← eG0,g0,t0,hn1,t1,hn2,t2,ev1]|refine WP_drw ?_|refine cnd_intro (fun hsp=>?_) fun hsp=>?_)
     refine fI ?_ x0
     unfold chkR
     rw [if_neg u0,if_pos (by rw [c3];simp)]
    | true =>
     rw [c3] at ev1
     cases c4:(R.F.all fun x=>decide (0≤x∧x≤R.L-1)) with
     | false =>
      rw [c4] at ev2
      have hsp:=@Nat.succ_ne_zero;repeat' (first|simp (disch:=first|exact dqb|fail) only [go_sem,↓reduceIte,hsp,← eG0,g0,t0,hn1,t1,hn2,t2,ev1,ev2]|refine WP_drw ?_|refine cnd_intro (fun hsp=>?_) fun hsp=>?_)
      refine fI ?_ x0
      unfold chkR
      rw [if_neg u0,if_neg (by rw [c3];simp),if_pos (by rw [c4];simp)]
     | true =>
      rw [c4] at ev2
      have u3:¬ ¬ R.W.all wntB=true:=by rw [c3];simp
      have u4:¬ ¬ (R.F.all fun x=>decide (0≤x∧x≤R.L-1))=true:=by rw [c4];simp
      have hs:Small R.F:=⟨by omega,hF.1.2⟩
      have hso0:=fun base=>run_sorted (base:=base) iF
      have hc:=fun base=>run_clone (base:=base) iF hs
      have hFl:=hF.1.1
      have hsp:=@Nat.succ_ne_zero;repeat' (first|simp (disch:=first|exact dqb|fail) only [go_sem,↓reduceIte,hsp,← eG0,g0,t0,hn1,t1,hn2,t2,ev1,ev2]|refine WP_drw ?_|refine cnd_intro (fun hsp=>?_) fun hsp=>?_)
      refine WPS_go ?_
      cases hso:sortB R.F with
      | false =>
       have hr:¬ R.F.Pairwise (·<·):=fun q=>by
        have q:=of_decide_eq_true (rise_iff.2 q)
        unfold sortB at hso
        exact of_decide_eq_false hso fun i h1 h2=>by have:=q i h1 h2;omega
       rw [hso] at hso0
       refine WP_drw ?_
       have hsp:=@Nat.succ_ne_zero;repeat' (first|simp (disch:=first|exact dqb|fail) only [go_sem,↓reduceIte,hsp,g0,hso0]|refine WP_drw ?_|refine cnd_intro (fun hsp=>?_) fun hsp=>?_)
       refine fI ?_ x0
       unfold chkR
       rw [if_neg u0,if_neg u3,if_neg u4,if_pos hr]
      | true =>
       rw [hso] at hso0
       have hso2:=of_decide_eq_true hso
       have key:nodup R.F ↔ R.F.Pairwise (·<·):=by
        rw [← rise_iff]
        unfold riseB nodup
        rw [decide_eq_true_iff]
        exact ⟨fun hd i h1 h2=>by have:=hd i h1 h2;have:=hso2 i h1 h2;omega,fun hh i h1 h2=>by have:=hh i h1 h2;omega⟩
       by_cases hz:nilB fv=true ∨ R.F=[]
       ·have hl0:R.F=[]:=hz.elim (fun hn=>(hF.nilB_nil hn).2) id
        have hic:Ints G0 (cloneV fv G0.length R.F) R.F:=by
         have:=cloneV_ints iF hs
         rw [hl0] at this ⊢
         simpa [cloneH,newH_nil] using this
        obtain ⟨cv,CH,ce,hv1,hv2⟩:=run_compact0 (base:=h.length) hic (by rw [hl0];simp)
        rw [hv1,hv2] at ce
        have hce:G0++cloneH fv R.F=G0:=by rw [hl0];simp [cloneH,newH_nil]
        rw [hce] at hc
        have hlt:((R.F.length:Int)<(R.F.length:Int))=False:=eq_false (by omega)
        refine WP_drw ?_
        have hsp:=@Nat.succ_ne_zero;repeat' (first|simp (disch:=first|exact dqb|fail) only [go_sem,↓reduceIte,hsp,g0,hso0,hc,ce,hn1,lenI hic,hlt]|refine WP_drw ?_|refine cnd_intro (fun hsp=>?_) fun hsp=>?_)
        refine fI ?_ x0
        unfold chkR
        rw [if_neg u0,if_neg u3,if_neg u4,if_neg (by rw [hl0];simp)]
       ·have hne:R.F ≠ []:=fun e=>hz (.inr e)
        have hnb:nilB fv=false:=by simpa using fun e=>hz (.inl e)
        have e1:∀ n,cloneV fv n R.F=.slice (some ⟨n,0,0⟩) R.F.length R.F.length:=fun n=>by rw [cloneV,if_neg (by simp [hnb]),newV_ne hne]
        have e2:cloneH fv R.F=[rowB R.F 0]:=by rw [cloneH,if_neg (by simp [hnb]),newH_ne hne]
        rw [e1,e2] at hc
        obtain ⟨cv,CH,ce,k,m,rfl,rfl,hm,hk,hiff⟩:=run_compact (base:=h.length) (h:=G0++[rowB R.F 0]) (id:=G0.length) (get_eq rfl) hs
        rw [set_eq rfl] at ce
        have hIm:=lenI (iF.ext (.app (t:=[rowB m 0]) .refl))
        obtain ⟨G2,eG2⟩:∃ G2,G2=G0++[rowB m 0]:=⟨_,rfl⟩
        rw [← eG2] at ce hIm
        have x2:Ext G0 G2:=by rw [eG2];exact .app .refl
        have g2:=x2.get g0
        have g1:(G0++[rowB R.F 0])[h.length]?=_:=get_app g0
        have hkl:lenOpA prog G2 35 (.slice (some ⟨G0.length,0,0⟩) k R.F.length)=some (.int .i64 (k:Int)):=len_sl Fc.el35
        have hlow:refsLow G0.length fv:=hF.lowR x0
        refine WP_wild [⟨11,35,45,⟨h.length,0,1⟩,fv,100⟩] (by kernel_rfl) (by kernel_rfl) (by kernel_rfl) ⟨hlow,trivial⟩ fun K hK=>?_
        iterate 16
         rw [TRS_cons]
         refine ⟨by first|(simp (disch:=first|exact dqb|fail) only [go_sem,↓reduceIte,g0,g1,g2,hso0,hc,ce,hIm,hkl,ldsQ_cons,ldsQ_nil,grdQ_cons,grdQ_nil,if_true,Nat.reduceLeDiff];done)|exact trivial,?_⟩
         simp (disch:=first|exact dqb|fail) only [go_sem,↓reduceIte,g0,g1,g2,hso0,hc,ce,hIm,hkl]
        rw [TRS_nil]
        refine ⟨by first|(simp (disch:=first|exact dqb|fail) only [go_sem,↓reduceIte,g0,g1,g2,hso0,hc,ce,hIm,hkl,ldsQ_cons,ldsQ_nil,grdQ_cons,grdQ_nil,if_true,Nat.reduceLeDiff];done)|exact trivial,?_⟩
        subst hK
        by_cases hd:nodup R.F
        ·have:=hiff.2 hd
         have hlt:((k:Int)<(R.F.length:Int))=False:=eq_false (by omega)
         have hsp:=@Nat.succ_ne_zero;repeat' (first|simp (disch:=first|exact dqb|fail) only [go_sem,↓reduceIte,hsp,hlt]|refine WP_drw ?_|refine cnd_intro (fun hsp=>?_) fun hsp=>?_)
         refine fI ?_ (x0.trans x2)
         unfold chkR
         rw [if_neg u0,if_neg u3,if_neg u4,if_neg (fun q=>q (key.1 hd))]
        ·have hkn:¬ k=R.F.length:=fun e=>hd (hiff.1 e)
         have hlt:((k:Int)<(R.F.length:Int))=True:=eq_true (by omega)
         have hsp:=@Nat.succ_ne_zero;repeat' (first|simp (disch:=first|exact dqb|fail) only [go_sem,↓reduceIte,hsp,hlt]|refine WP_drw ?_|refine cnd_intro (fun hsp=>?_) fun hsp=>?_)
         refine fI ?_ (x0.trans x2)
         unfold chkR
         rw [if_neg u0,if_neg u3,if_neg u4,if_pos (fun q=>hd (key.2 q))]
 ·have t0:decide (1≤R.L∧R.L≤60)=false:=decide_eq_false c0
  have hsp:=@Nat.succ_ne_zero;repeat' (first|simp (disch:=first|exact dqb|fail) only [go_sem,↓reduceIte,hsp,← eG0,g0,t0]|refine WP_drw ?_|refine cnd_intro (fun hsp=>?_) fun hsp=>?_)
  refine fI ?_ x0
  unfold chkR
  rw [if_pos (.inl c0)]
end Go.AM
