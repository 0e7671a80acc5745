/-
  From readings of arguments to the abstract machine: rows of memory that are only read.
-/
import Derived.Test.YtcemgempgbjbeaaGreatU8
import Derived.Carry
import Derived.ChangeSame
import Derived.Lib.SmallJoins
import Derived.Test.YtcemgempgbjbeaaGreatU7
import Derived.Test.YtcemgempgbjbeaaGreatProg
import Derived.KernelRfl
set_option linter.unusedSimpArgs false
set_option linter.unusedVariables false
namespace Go.AM
open Go.RowKit Go.ChangeShapes
structure Rw where
  blk:Nat
  off:Nat
  cs:List AVal
def Rw.ok (w:World) (r:Rw):Prop:=∃ (C:Array Value) (T:TypeId) (fz:Nat × Nat),w.heap[r.blk]?=some (.cells C T fz)∧r.off+r.cs.length≤C.size ∧
  ∀ (i:Nat) (x:AVal) (y:Value),r.cs[i]?=some x→C[r.off+i]?=some y→∃ k n,x=.int k n∧y=.int k n
def muR (R:List Rw):Mu:={ loc:=fun id v=>if v=0 then (R[id]?).map fun r=>⟨r.blk,r.off,r.cs.length,0⟩ else none,anon:=fun _=>none }
def heapR (R:List Rw):Heap:=R.map fun r=>⟨.cells r.cs 3 false true,0⟩
theorem heapR_get {R:List Rw} {i:Nat} {r:Rw} (h:R[i]?=some r):(heapR R)[i]?=some ⟨.cells r.cs 3 false true,0⟩:=by simp [heapR,h]
theorem muR_loc {R:List Rw} {i:Nat} {r:Rw} (h:R[i]?=some r):(muR R).loc i 0=some ⟨r.blk,r.off,r.cs.length,0⟩:=by simp [muR,h]
theorem muR_inv {R:List Rw} {i v:Nat} {L:Loc} (h:(muR R).loc i v=some L):v=0∧∃ r,R[i]?=some r∧L=⟨r.blk,r.off,r.cs.length,0⟩:=by
  simp only [muR] at h
  split at h
  · rename_i hv
    cases hr:R[i]? with
    | none=>rw [hr] at h;cases h
    | some r=>rw [hr] at h;cases h;exact ⟨hv,r,rfl,rfl⟩
  · cases h
theorem hrelR {P:Program} {R:List Rw} {w:World} (hR:∀ r ∈ R,r.ok w):HRel P (muR R) (heapR R) w:=by
  refine ⟨fun id v L h=>?_,fun id b L hb h=>?_,fun i j b c L M hij hb hc hL hM hwr=>?_,fun id v L b h hb=>?_,fun b l h=>?_,fun b l h=>?_⟩
  · obtain ⟨rfl,r,hr,rfl⟩:=muR_inv h
    obtain ⟨C,T,fz,h1,_⟩:=hR r (List.mem_of_getElem? hr)
    refine ⟨_,heapR_get hr,Nat.zero_le _,?_⟩
    exact (Array.getElem?_eq_some_iff.1 h1).1
  · obtain ⟨hv,r,hr,rfl⟩:=muR_inv h
    rw [heapR_get hr] at hb
    cases hb
    obtain ⟨C,T,fz,h1,h2,h3⟩:=hR r (List.mem_of_getElem? hr)
    refine ⟨C,T,fz,h1,Nat.le_refl _,h2,fun i x y hx hy=>?_,rfl,fun h=>by cases h⟩
    obtain ⟨k,n,rfl,rfl⟩:=h3 i x y hx hy
    exact .int k n
  · obtain ⟨_,r,hr,rfl⟩:=muR_inv hL
    rw [heapR_get hr] at hb
    cases hb
    cases hwr
  · obtain ⟨rfl,r,hr,rfl⟩:=muR_inv h
    rw [heapR_get hr] at hb
    cases hb
    exact ⟨_,muR_loc hr⟩
  · cases h
  · cases h
theorem no_img {R:List Rw} {b:Nat}:¬ WImg (muR R) (heapR R) b:=by
  rintro ⟨id,k,L,h1,h2,h3,_⟩
  obtain ⟨_,r,hr,_⟩:=muR_inv h2
  rw [heapR_get hr] at h1
  cases h1
  cases h3
theorem below_of_evo {R:List Rw} {w w':World} {μ':Mu} {h':Heap} (E:Evo (muR R) (heapR R) w μ' h' w'):Below w.heap.size w w' :=
  ⟨E.os,E.tape,E.output,E.size,fun b hb=>(E.keep b hb no_img).1⟩
theorem trodAll_below {H:Type} {enc:TypeId × Value→H} {P:Program} (hl:laidOutB P=true) {W W':World} (hb:Below W.heap.size W W') {sp':Nat→Bool}:∀ {ts:List TypeId} {vs:List Value} {ds:List (DataW H)} {ps:List MemPlace},
    (∀ t ∈ ts,P.readableRec t=true∧t<P.types.size)→DataW.TrodAll enc P W 0 (fun _=>true) true ts vs ds ps→(∀ p ∈ ps,p.block<W.heap.size∧sp' p.block=true)→DataW.TrodAll enc P W' 0 sp' true ts vs ds ps
  | [],vs,ds,ps,_,h,_=>by
    obtain ⟨rfl,rfl,rfl⟩:=trodAll_nil h
    exact trodAll_mk0
  | t :: ts,vs,ds,ps,hr,h,hp=>by
    obtain ⟨v,vs1,d,ds1,a,b,rfl,rfl,rfl,h1,h2⟩:=trodAll_cons h
    exact trodAll_cons_mk (WideElems.Trod_stays hl (hr t (by simp)).1 (hr t (by simp)).2 h1 (fun x hx=>hb.same (hp x (by simp [hx])).1) (fun x hx=>(hp x (by simp [hx])).2))
      (trodAll_below hl hb (fun u hu=>hr u (by simp [hu])) h2 (fun x hx=>hp x (by simp [hx])))
theorem post_below {H:Type} {enc:TypeId × Value→H} {P:Program} {f:Func} {s:ChangeSpec} {apart fresh handsOn again:Bool} {W W':World} {args:Array Value} {v:Value} {ds:List (DataW H)} {before:List MemPlace}
    (hl:laidOutB P=true) (hr:∀ t ∈ f.params.toList,P.readableRec t=true∧t<P.types.size) (hb:Below W.heap.size W W') (hvars:s.vars=[])
    (hW:DataW.Whole enc P f.params.toList s.vars apart W args.toList ds [] before)
    (hres:∀ (b:Nat) (sp:Nat→Bool) (hd:Bool),DataW.TrodAll enc P W' b sp hd f.resultTypes.toList (v.resultList f.resultTypes.size) (s.fn H (ds++[])).results [])
    (hargs:(s.fn H (ds++[])).args=ds) (hgs:(s.fn H (ds++[])).vars=[])
    (hok:∀ (j:Nat) (t:TypeId) (r:Value),f.resultTypes[j]?=some t→(v.resultList f.resultTypes.size)[j]?=some r→Value.okWide P W' .any 0 t r) :
    s.post enc P f apart fresh handsOn again W args v W':=by
  have hlt:=hW.lt
  obtain ⟨p,q,hA,hV,hpq,hz,hn⟩:=hW
  have hq:q=[]:=by rw [hvars] at hV;exact (trodVars_none hV).2
  subst hq
  rw [List.append_nil] at hpq
  subst hpq
  have args':∀ sp:Nat→Bool,(∀ p ∈ before,sp p.block=true)→DataW.TrodAll enc P W' 0 sp true f.params.toList args.toList ds before:=fun sp hs =>
    trodAll_below hl hb hr hA (fun x hx=>⟨by simpa using hlt x hx,hs x hx⟩)
  have vars':∀ sp,DataW.TrodVars enc P W' sp s.vars ([]:List (DataW H)) []:=fun sp=>by rw [hvars];simp [DataW.TrodVars]
  refine ⟨ds,[],before,[],before,[],⟨before,[],hA,hV,by simp,hz,hn⟩,hres _ _ _,by rw [hargs];exact args' _ (fun x hx=>by simpa using hlt x hx),by rw [hgs];exact vars' _,?_,fun _=>?_⟩
  · exact hb.frame _
  · refine ⟨hok,_,_,([]++before)++[],⟨[]++before,[],trodAll_append (args' _ (fun _ _=>rfl)) (hres _ _ _),vars' _,rfl,?_,?_⟩,?_⟩
    · intro b off hp
      rw [hb.frozen (show b<W.heap.size from hlt (.cell b off) (by simpa using hp))]
      exact hz b off (by simpa using hp)
    · intro ha
      simpa using hn ha
    · intro p hp _
      simpa using hp
theorem add_block (a:Addr) (n:Nat):(a.add n).block=a.block:=by unfold Addr.add;split<;>rfl
theorem add_off (a:Addr) (n:Nat):(a.add n).off=a.off+n:=by
  unfold Addr.add;split
  · rename_i h;subst h;rfl
  · rfl
theorem arg_slice {H:Type} {enc:TypeId × Value→H} {P:Program} {W:World} {t e:TypeId} {k:IntKind} {n:Nat} {V:Value} {x:DataW H × List MemPlace} (ht:P.underlying t=some (.slice e)) (he:P.underlying e=some (.int k)) (hc:P.cellsOf e=1)
    (h:DataW.trod enc P W 0 (fun _=>true) true n t [V]=some x) :
    ∃ (r:Rw) (zs:List Int) (len cap:Nat),(r.cs=[] ∨ r.ok W)∧r.cs=zs.map (AVal.int k)∧zs.length=cap∧len≤cap∧(∀ z ∈ zs,(Lit.int k z).wf=true)∧(x.1=.nil ∨ x.1=.slice (lits k (zs.take len)) (lits k (zs.drop len))) ∧
      ∀ (i:Nat) (μ:Mu),(0<cap→μ.loc i 0=some ⟨r.blk,r.off,r.cs.length,0⟩)→∃ v,VR μ v V∧((v=.slice none 0 0∧cap=0) ∨ (v=.emp∧cap=0) ∨ (v=.slice (some ⟨i,0,0⟩) len cap∧0<cap)):=by
  rcases Go.ChangeShapes.open_ints ht he hc h with ⟨h1,h2⟩|⟨a,len,cap,zs,h1,h2,h3,h4,h5,h6,h7,h8⟩
  · refine ⟨⟨0,0,[]⟩,[],0,0,.inl rfl,rfl,rfl,Nat.le_refl _,by simp,.inl (by rw [h2]),fun i μ hμ=>⟨.slice none 0 0,?_,.inl ⟨rfl,rfl⟩⟩⟩
    simp only [List.cons.injEq,and_true] at h1
    rw [h1]
    exact .sliceN
  · simp only [List.cons.injEq,and_true] at h1
    subst h1
    simp only [if_true] at h5
    by_cases hcap:cap=0
    · subst hcap
      have hz:zs=[]:=List.eq_nil_of_length_eq_zero h5
      have hl:len=0:=by omega
      subst hz hl
      exact ⟨⟨0,0,[]⟩,[],0,0,.inl rfl,rfl,rfl,Nat.le_refl _,by simp,.inr (by rw [h6]),fun i μ hμ=>⟨.emp,.emp a,.inr (.inl ⟨rfl,rfl⟩)⟩⟩
    · have h0:=h7 0 (by omega)
      unfold World.cell? at h0
      rw [add_block] at h0
      cases hb:W.heap[a.block]? with
      | none=>rw [hb] at h0;cases h0
      | some o =>
        rw [hb] at h0
        cases o with
        | cells C T fz =>
          simp only at h0
          split at h0
          · cases h0
          · rename_i hsp
            have hcell:∀ i,i<zs.length→C[a.off+i]?=some (.int k (zs.getD i 0)):=fun i hi=>by
              have:=h7 i hi
              unfold World.cell? at this
              rw [add_block,hb] at this
              simp only at this
              split at this
              · cases this
              · rwa [add_off] at this
            refine ⟨⟨a.block,a.off,zs.map (AVal.int k)⟩,zs,len,cap,.inr ⟨C,T,fz,hb,?_,fun i x y hx hy=>?_⟩,rfl,h5,h3,h8,.inr (by rw [h6]),fun i μ hμ=>⟨.slice (some ⟨i,0,0⟩) len cap,?_,.inr (.inr ⟨rfl,by omega⟩)⟩⟩
            · have:=hcell (zs.length-1) (by omega)
              have:=(Array.getElem?_eq_some_iff.1 this).1
              simp only [List.length_map]
              omega
            · simp only [List.getElem?_map] at hx
              cases hz:zs[i]? with
              | none=>rw [hz] at hx;cases hx
              | some z =>
                rw [hz] at hx
                cases hx
                have hi:=(List.getElem?_eq_some_iff.1 hz).1
                have:=hcell i hi
                simp only at hy
                rw [this] at hy
                cases hy
                refine ⟨k,z,rfl,?_⟩
                simp [List.getD_eq_getElem?_getD,hz]
            · have ha:a=⟨a.block,a.off,none⟩:=by
                cases a with
                | mk b o sp =>
                  simp only [Addr.add,if_true] at hsp
                  cases sp with
                  | none=>rfl
                  | some z=>exact absurd rfl hsp
              have hv:=VR.slice (μ:=μ) ⟨i,0,0⟩ ⟨a.block,a.off,(zs.map (AVal.int k)).length,0⟩ len cap cap (hμ (by omega)) (by omega) h3 (Nat.le_refl _) (fun _=>.inl rfl)
              rw [ha]
              simpa using hv
        | _=>cases h0
end Go.AM
namespace Go.AM
open Go.Proofs.Tryz
def fnOk (fn:Func):Bool:=match fn.body with
  | some c => okS true fn.ntmps c && !(fn.name == "runtime.NumGoroutine")
  | none=>true
theorem allFn:(Go.Proofs.Tryz.prog.funcs.all fnOk)=true:=by kernel_rfl
theorem mixed:Go.Proofs.Tryz.prog.follows .mixedOrders=true:=by kernel_rfl
theorem allOk:AllOk Go.Proofs.Tryz.prog:=by
  refine ⟨fun f fn c hf hc=>?_,mixed⟩
  have:=Array.all_eq_true'.1 allFn fn (Array.mem_of_getElem? hf)
  simp [fnOk,hc] at this
  exact ⟨this.1,by simpa using this.2⟩
end Go.AM
namespace Go.AM
def inR:List (Nat × Nat)→Nat→Bool
  | [],_=>false
  | (a,b) :: l,r=>(Nat.ble a r && Nat.ble r b) || inR l r
def Agree (m:List (Nat × Nat)) (fr FR:AFrame):Prop:=∀ r,inR m r=false→fr r=FR r
theorem Agree.refl {m:List (Nat × Nat)} {fr:AFrame}:Agree m fr fr:=fun _ _=>rfl
theorem Agree.put {m:List (Nat × Nat)} {fr FR:AFrame} {d:Tmp} {v:AVal} (hd:inR m d=true) (h:Agree m fr FR):Agree m (Go.AM.put fr (some d) v) FR:=fun r hr=>by
  have hne:r ≠ d:=by rintro rfl;rw [hd] at hr;cases hr
  rw [Go.AM.put_ne hne]
  exact h r hr
theorem Agree.put0 {m:List (Nat × Nat)} {fr FR:AFrame} {v:AVal} (h:Agree m fr FR):Agree m (Go.AM.put fr none v) FR:=h
section
variable {P:Program} {raw:FuncId→Bool} {base:Nat} {Q:AExit→St→Prop}
theorem WP_iter {α:Type} {c:Code} {FR:AFrame} {H:Heap} (mod:List (Nat × Nat)) (J:Heap→α→AFrame→Heap→Prop) (m:α→Nat) (a0:α) (h0:J H a0 FR H)
    (step:∀ a fr h,Agree mod fr FR→J H a fr h→WP P raw base c ⟨fr,h⟩ (thenQ (fun s'=>Agree mod s'.fr FR∧∃ a',J H a' s'.fr s'.h∧m a'<m a) Q)):WP P raw base (.loop c) ⟨FR,H⟩ Q:=by
  have key:∀ n a fr h,m a=n→Agree mod fr FR→J H a fr h→WP P raw base (.loop c) ⟨fr,h⟩ Q:=by
    intro n
    induction n using Nat.strongRecOn with
    | _ n ih =>
      intro a fr h hn hA hJ
      rw [WP_iff]
      obtain ⟨e,s1,h1,hq⟩:=step a fr h hA hJ
      simp only [evF]
      rw [h1]
      cases e with
      | normal =>
        obtain ⟨hA',a',hJ',hm⟩:=hq
        exact ih (m a') (hn ▸ hm) a' s1.fr s1.h rfl hA' hJ'
      | exit id=>exact ⟨_,_,rfl,hq⟩
      | ret=>exact ⟨_,_,rfl,hq⟩
  exact key _ a0 FR H rfl Agree.refl h0
end
end Go.AM
namespace Go.AM
def Bytes (h:Heap) (v:AVal) (l:List Int):Prop :=
  (l.length<2 ^ 60∧∀ x ∈ l,0≤x∧x≤255) ∧
  ((v=.slice .none 0 0∧l=[]) ∨ (v=.emp∧l=[]) ∨
   ∃ (r:ARef) (k:Nat) (c:List AVal) (e:TypeId) (row ro:Bool),v=.slice (some r) l.length k∧h[r.id]?=some ⟨.cells c e row ro,r.ver⟩∧(c.drop r.off).take l.length=l.map (.int .u8)∧r.off+l.length≤c.length∧l.length≤k)
section
variable {P:Program} {h:Heap} {v:AVal} {l:List Int} {t e:TypeId} {zs:List AVal}
theorem Bytes.app {g:Heap} (hI:Bytes h v l):Bytes (h++g) v l:=by
  refine ⟨hI.1,?_⟩
  rcases hI.2 with h1|h1|⟨r,k,c,e,row,ro,h1,h2,h3⟩
  · exact .inl h1
  · exact .inr (.inl h1)
  · exact .inr (.inr ⟨r,k,c,e,row,ro,h1,by rw [List.getElem?_append_left (lt_of_get h2)];exact h2,h3⟩)
theorem Bytes.ext {H:Heap} (hI:Bytes h v l) (e:Ext h H):Bytes H v l:=by
  obtain ⟨t,rfl⟩:=e
  exact hI.app
theorem Bytes.len (hI:Bytes h v l) (ht:elS P t=some (e,1,zs)):lenOpA P h t v=some (.int .i64 (l.length:Int)):=by
  simp only [lenOpA,ht]
  rcases hI.2 with ⟨rfl,rfl⟩|⟨rfl,rfl⟩|⟨r,k,c,e,row,ro,rfl,_⟩<;>rfl
theorem Bytes.addr (hI:Bytes h v l) (ht:elS P t=some (e,1,zs)) (ha:arT P t=.none) {i:Int} (h0:0≤i) (h1:i<l.length):indexAddrA P t v (.int .i64 i)=some (elAddr v i.toNat):=by
  rcases hI.2 with ⟨rfl,rfl⟩|⟨rfl,rfl⟩|⟨r,k,c,e,row,ro,rfl,_⟩
  · simp at h1;omega
  · simp at h1;omega
  · simp only [indexAddrA,ha,ht,h0,h1,and_self,if_true,Nat.mul_one,elAddr]
theorem Bytes.load (hI:Bytes h v l) (ht:tyA P t=some (false,1)) {i:Nat} {x:Int} (hx:l[i]?=some x):loadP P h t (elAddr v i)=some (.int .u8 x):=by
  have hi:=(List.getElem?_eq_some_iff.1 hx).1
  rcases hI.2 with ⟨rfl,rfl⟩|⟨rfl,rfl⟩|⟨r,k,c,e,row,ro,rfl,h2,h3,_⟩
  · simp at hi
  · simp at hi
  · have hg:c[r.off+i]?=some (.int .u8 x):=by
      have h4:((c.drop r.off).take l.length)[i]?=some (.int .u8 x):=by rw [h3,List.getElem?_map,hx];rfl
      rw [List.getElem?_take,if_pos hi,List.getElem?_drop] at h4
      exact h4
    have hlt:=(List.getElem?_eq_some_iff.1 hg).1
    have h5:(c.drop (r.off+i)).take 1=[.int .u8 x]:=by
      rw [List.drop_eq_getElem_cons hlt]
      have:=(List.getElem?_eq_some_iff.1 hg).2
      rw [this];rfl
    simp only [loadP,elAddr,loadA,ht,Bool.false_eq_true,if_false,loadN,cellsAt,ARef.add,h2,if_true,show r.off+i+1≤c.length from hlt,h5,Option.bind_some,mkVal]
theorem Bytes.one (hI:Bytes h v l):One v:=by
  rcases hI.2 with ⟨rfl,rfl⟩|⟨rfl,rfl⟩|⟨r,k,c,e,row,ro,rfl,_⟩<;>exact ⟨rfl,rfl,rfl⟩
theorem asBytes (x:Bytes h v l):Bytes h v l:=x
theorem Bytes.set {i:Nat} {b:ABlk} (hI:Bytes h v l) (hb:∀ r n k,v=.slice (some r) n k→r.id ≠ i):Bytes (h.set i b) v l:=by
  refine ⟨hI.1,?_⟩
  rcases hI.2 with h1|h1|⟨r,k,c,e,row,ro,h1,h2,h3⟩
  · exact .inl h1
  · exact .inr (.inl h1)
  · exact .inr (.inr ⟨r,k,c,e,row,ro,h1,by rw [List.getElem?_set_ne (fun e=>hb _ _ _ h1 e.symm)];exact h2,h3⟩)
end
end Go.AM
namespace Go.AM
def subR (m m':List (Nat × Nat)):Bool:=m.all fun p=>m'.any fun q=>Nat.ble q.1 p.1 && Nat.ble p.2 q.2
theorem inR_iff {r:Nat}:∀ {m:List (Nat × Nat)},inR m r=true ↔ ∃ p ∈ m,p.1≤r∧r≤p.2
  | []=>by simp [inR]
  | (a,b) :: m=>by
    have ih:=inR_iff (r:=r) (m:=m)
    simp only [inR,Bool.or_eq_true,Bool.and_eq_true,ih]
    constructor
    · rintro (⟨h1,h2⟩|⟨p,hp,h⟩)
      · exact ⟨(a,b),by simp,Nat.le_of_ble_eq_true h1,Nat.le_of_ble_eq_true h2⟩
      · exact ⟨p,by simp [hp],h⟩
    · rintro ⟨p,hp,h1,h2⟩
      rcases List.mem_cons.1 hp with rfl|hp
      · exact .inl ⟨Nat.ble_eq_true_of_le h1,Nat.ble_eq_true_of_le h2⟩
      · exact .inr ⟨p,hp,h1,h2⟩
theorem Agree.sub {m m':List (Nat × Nat)} {a b c:AFrame} (hs:subR m m'=true) (h:Agree m a b) (h2:Agree m' b c):Agree m' a c:=fun r hr=>by
  have:inR m r=false:=by
    cases hc:inR m r with
    | false=>rfl
    | true =>
      obtain ⟨p,hp,h3,h4⟩:=inR_iff.1 hc
      have h5:=List.all_eq_true.1 hs p hp
      obtain ⟨q,hq,h6⟩:=List.any_eq_true.1 h5
      rw [Bool.and_eq_true] at h6
      have:inR m' r=true:=inR_iff.2 ⟨q,hq,Nat.le_trans (Nat.le_of_ble_eq_true h6.1) h3,Nat.le_trans h4 (Nat.le_of_ble_eq_true h6.2)⟩
      rw [this] at hr
      cases hr
  rw [h r this,h2 r hr]
section
variable {P:Program} {raw:FuncId→Bool} {base:Nat} {Q:AExit→St→Prop} {fr:AFrame} {h:Heap}
structure WPS (P:Program) (raw:FuncId→Bool) (base:Nat) (c:Code) (s:St) (Q:AExit→St→Prop) (_:DepW c Q:=⟨⟩):Prop where
  go:WP P raw base c s Q
theorem WP_stop {c:Code} {s:St}:WP P raw base c s Q=WPS P raw base c s Q:=propext ⟨fun h=>⟨h⟩,fun h=>h.go⟩
theorem WPS_go {c:Code} {s:St} (h:WP P raw base c s Q):WPS P raw base c s Q:=⟨h⟩
theorem WPS_rest {c:Code} (k:∀ FR H,FR=fr→H=h→WP P raw base c ⟨FR,H⟩ Q):WPS P raw base c ⟨fr,h⟩ Q:=⟨k fr h rfl rfl⟩
theorem WPS_restF {c:Code} (k:∀ FR,FR=fr→WP P raw base c ⟨FR,h⟩ Q):WPS P raw base c ⟨fr,h⟩ Q:=⟨k fr rfl⟩
theorem put_if {fr:AFrame} {t d:Nat} {v:AVal}:put fr (some d) v t=if t=d then v else fr t:=rfl
theorem set_id {H:Heap} {i:Nat} {b:ABlk} (x:H[i]?=some b):H.set i b=H:=by
  obtain ⟨h1,h2⟩:=List.getElem?_eq_some_iff.1 x
  rw [← h2,List.set_getElem_self]
theorem WP_rest {c:Code} (k:∀ FR H,FR=fr→H=h→WP P raw base c ⟨FR,H⟩ Q):WP P raw base c ⟨fr,h⟩ Q:=k fr h rfl rfl
def atP (H:Heap) (v:AVal):Option ABlk:=match v with|.ptr (some r)=>H[r.id]?|_=>none
theorem atP_ptr {H:Heap} {r:ARef}:atP H (.ptr (some r))=H[r.id]?:=rfl
theorem WP_count {c:Code} {FR:AFrame} {H:Heap} (mod:List (Nat × Nat)) (a N:Nat) (haN:a≤N) (J:Heap→Nat→AFrame→Heap→Prop) (h0:J H a FR H)
    (step:∀ i fr h,a≤i→i<N→Agree mod fr FR→J H i fr h→WP P raw base c ⟨fr,h⟩ (thenQ (fun s'=>Agree mod s'.fr FR∧J H (i+1) s'.fr s'.h) Q))
    (last:∀ fr h,Agree mod fr FR→J H N fr h→WP P raw base c ⟨fr,h⟩ (thenQ (fun _=>False) Q)):WP P raw base (.loop c) ⟨FR,H⟩ Q:=by
  refine WP_iter mod (fun H i fr h=>a≤i∧i≤N∧J H i fr h) (fun i=>N-i) a ⟨Nat.le_refl _,haN,h0⟩ ?_
  rintro i fr h hA ⟨h1,h2,hJ⟩
  by_cases hi:i<N
  · obtain ⟨e,s1,h3,h4⟩:=step i fr h h1 hi hA hJ
    refine ⟨e,s1,h3,?_⟩
    cases e with
    | normal=>exact ⟨h4.1,i+1,⟨by omega,by omega,h4.2⟩,by omega⟩
    | exit id=>exact h4
    | ret=>exact h4
  · have:i=N:=by omega
    subst this
    obtain ⟨e,s1,h3,h4⟩:=last fr h hA hJ
    refine ⟨e,s1,h3,?_⟩
    cases e with
    | normal=>exact h4.elim
    | exit id=>exact h4
    | ret=>exact h4
end
end Go.AM
namespace Go.AM
section
variable {h T:Heap} {v:AVal} {c d:List AVal} {e f:TypeId} {row ro row' ro':Bool} {i j u x:Nat}
end
end Go.AM
namespace Go.AM
section
variable {P:Program} {raw:FuncId→Bool} {base:Nat}
theorem WP_mono {c:Code} {s:St} {Q:AExit→St→Prop} (Q1:AExit→St→Prop) (h:WP P raw base c s Q1) (k:∀ e s',Q1 e s'→Q e s'):WP P raw base c s Q:=by
  obtain ⟨e,s',h1,h2⟩:=h
  exact ⟨e,s',h1,k e s' h2⟩
theorem WP_meet {c:Code} {s:St} {Q:AExit→St→Prop} {K:St→Prop} (I:AFrame→Heap→Prop) (h:WP P raw base c s (thenQ (fun s'=>I s'.fr s'.h) (fun _ _=>False))) (k:∀ fr h,I fr h→K ⟨fr,h⟩):WP P raw base c s (thenQ K Q):=by
  refine WP_mono _ h fun e s' h1=>?_
  cases e with
  | normal=>exact k _ _ h1
  | exit id=>exact h1.elim
  | ret=>exact h1.elim
end
end Go.AM
namespace Go.AM
section
variable {P:Program} {raw:FuncId→Bool} {base:Nat} {s:St} {Q:AExit→St→Prop} {K:St→Prop}
def TRS (P:Program) (raw:FuncId→Bool) (base:Nat) (ops:Array Oper) (chk:Bool) (Φ:Nat→St→Prop):List Oper→Nat→St→(St→Prop)→Prop
  | [],n,s,K=>Φ n s∧K s
  | o :: l,n,s,K=>Φ n s∧STEP P raw base ops chk o s (fun s1=>TRS P raw base ops chk Φ l (n+1) s1 K)
theorem TRS_nil {ops:Array Oper} {chk:Bool} {Φ:Nat→St→Prop} {n:Nat}:TRS P raw base ops chk Φ [] n s K=(Φ n s∧K s):=rfl
theorem TRS_cons {ops:Array Oper} {chk:Bool} {Φ:Nat→St→Prop} {n:Nat} {o:Oper} {l:List Oper}:TRS P raw base ops chk Φ (o :: l) n s K=(Φ n s∧STEP P raw base ops chk o s (fun s1=>TRS P raw base ops chk Φ l (n+1) s1 K)):=rfl
theorem TRS_sound {ops:Array Oper} {chk:Bool} {Φ:Nat→St→Prop}:∀ {l:List Oper} {n:Nat} {s:St},TRS P raw base ops chk Φ l n s K →
    ∃ s',evOps P (callL P raw) base ops chk l s=some s'∧K s'∧∀ i x,(trOps P (callL P raw) base ops chk l s)[i]?=some x→Φ (n+i) x
  | [],n,s,⟨h1,h2⟩=>by
    refine ⟨s,rfl,h2,fun i x hx=>?_⟩
    cases i with
    | zero=>simp only [trOps,List.getElem?_cons_zero,Option.some.injEq] at hx;subst hx;exact h1
    | succ i=>simp [trOps] at hx
  | o :: l,n,s,⟨h1,s1,h2,h3⟩=>by
    obtain ⟨s',h4,h5,h6⟩:=TRS_sound h3
    refine ⟨s',by simp only [evOps,h2];exact h4,h5,fun i x hx=>?_⟩
    simp only [trOps,h2] at hx
    cases i with
    | zero=>simp only [List.getElem?_cons_zero,Option.some.injEq] at hx;subst hx;exact h1
    | succ i =>
      rw [List.getElem?_cons_succ] at hx
      have:=h6 i x hx
      rwa [show n+1+i=n+(i+1) by omega] at this
structure Ld where
  i:Nat
  t:TypeId
  r:Tmp
  p:ARef
  v:AVal
  lim:Nat
def ldsQ (P:Program):List Ld→Nat→St→Prop
  | [],_,_=>True
  | e :: L,n,s=>((if n≤e.lim then loadP P s.h e.t (.ptr (some e.p))=some e.v else True)∧if n=e.i then s.fr e.r=.ptr (some e.p) else True)∧ldsQ P L n s
theorem ldsQ_nil {n:Nat}:ldsQ P [] n s=True:=rfl
theorem ldsQ_cons {i t r n lim:Nat} {p:ARef} {v:AVal} {L:List Ld} {fr:AFrame} {h:Heap}:ldsQ P (⟨i,t,r,p,v,lim⟩ :: L) n ⟨fr,h⟩=(((if n≤lim then loadP P h t (.ptr (some p))=some v else True)∧if n=i then fr r=.ptr (some p) else True)∧ldsQ P L n ⟨fr,h⟩):=rfl
theorem ldsQ_mem:∀ {L:List Ld} {n:Nat} {s:St},ldsQ P L n s→∀ e ∈ L,(n≤e.lim→loadP P s.h e.t (.ptr (some e.p))=some e.v)∧(n=e.i→s.fr e.r=.ptr (some e.p))
  | [],_,_,_,e,he=>by cases he
  | x :: L,n,s,⟨⟨h1,h2⟩,h3⟩,e,he=>by
    rcases List.mem_cons.1 he with rfl|he
    · exact ⟨fun hn=>by rw [if_pos hn] at h1;exact h1,fun hn=>by rw [if_pos hn] at h2;exact h2⟩
    · exact ldsQ_mem h3 e he
def ldsOps (wd:Bool) (l:List Oper) (L:List Ld):Bool:=L.all fun e=>(decide (l.length≤e.lim) || (isEw wd (l.toArray.getD e.lim default).op && befores l.toArray e.lim e.i)) && match l[e.i]? with|some o=>(match o.op with|.load t (.tmp r)=>t == e.t && r == e.r|_=>false)|none=>false
def refsLow (n:Nat) (v:AVal):Prop:=v.refs.all (fun r=>decide (r.1<n))=true
def ldsLow (n:Nat):List Ld→Prop
  | []=>True
  | e :: L=>refsLow n e.v∧ldsLow n L
theorem ldsLow_mem {n:Nat}:∀ {L:List Ld},ldsLow n L→∀ e ∈ L,refsLow n e.v
  | [],_,e,he=>by cases he
  | x :: L,⟨h1,h2⟩,e,he=>by
    rcases List.mem_cons.1 he with rfl|he
    · exact h1
    · exact ldsLow_mem h2 e he
theorem len_tr {ops:Array Oper} {chk:Bool}:∀ {l:List Oper} {s s':St} {i:Nat},evOps P (callL P raw) base ops chk l s=some s'→i≤l.length→∃ x,(trOps P (callL P raw) base ops chk l s)[i]?=some x
  | [],s,s',i,_,hi=>⟨s,by
                                  have:i=0:=by simpa using hi
                                  subst this;rfl⟩
  | o :: l,s,s',0,_,_=>⟨s,by simp [trOps]⟩
  | o :: l,s,s',i+1,h,hi=>by
    simp only [evOps] at h
    split at h
    · rename_i s1 h1
      obtain ⟨x,hx⟩:=len_tr (i:=i) h (by simpa using hi)
      exact ⟨x,by simp only [trOps,h1,List.getElem?_cons_succ];exact hx⟩
    · cases h
theorem tr_len {ops:Array Oper} {chk:Bool}:∀ (l:List Oper) (s:St),(trOps P (callL P raw) base ops chk l s).length≤l.length+1
  | [],s=>by simp [trOps]
  | o :: l,s=>by
    simp only [trOps,List.length_cons]
    split
    · rename_i s1 _
      have:=tr_len (ops:=ops) (chk:=chk) l s1
      omega
    · simp
theorem loose_of {wd:Bool} {l:List Oper} {L:List Ld} {s':St} (hl:looseL wd l.toArray=L.map (·.i)) (ho:ldsOps wd l L=true) (hv:ldsLow s.h.length L) (h1:evOps P (callL P raw) base l.toArray (!wd) l s=some s')
    (h3:∀ i x,(trOps P (callL P raw) base l.toArray (!wd) l s)[i]?=some x→ldsQ P L (0+i) x):LooseOk P (callWith P raw (evL P raw)) base wd l.toArray s:=by
  intro j hj
  rw [hl] at hj
  obtain ⟨e,he,rfl⟩:=List.mem_map.1 hj
  have hoe:=List.all_eq_true.1 ho e he
  rw [Bool.and_eq_true] at hoe
  obtain ⟨hlm,hoe⟩:=hoe
  split at hoe
  · rename_i o hlo
    split at hoe
    · rename_i t r hop
      simp only [Bool.and_eq_true,beq_iff_eq] at hoe
      obtain ⟨rfl,rfl⟩:=hoe
      have hi:e.i<l.length:=(List.getElem?_eq_some_iff.1 hlo).1
      obtain ⟨x,hx⟩:=len_tr (i:=e.i) h1 (by omega)
      have hx1:=(ldsQ_mem (h3 e.i x hx) e he).2 (by omega)
      refine ⟨o,x,e.v,by simpa using hlo,hx,fun _=>⟨fun m y hy hwait=>?_,ldsLow_mem hv e he⟩⟩
      have hml:m≤l.length:=by
        have h4:=(List.getElem?_eq_some_iff.1 hy).1
        have h5:(trOps P (callWith P raw (evL P raw)) base l.toArray (!wd) l.toArray.toList s).length≤l.length+1:=tr_len (P:=P) (raw:=raw) (base:=base) (ops:=l.toArray) (chk:=!wd) l s
        omega
      have hle:0+m≤e.lim:=by
        rw [Bool.or_eq_true,Bool.and_eq_true] at hlm
        rcases hlm with h4|⟨h4,h5⟩
        · have:=of_decide_eq_true h4;omega
        · rcases Nat.lt_or_ge e.lim l.length with h6|h6
          · have:=hwait e.lim (by simpa using h6) h4 h5;omega
          · omega
      have hy1:=(ldsQ_mem (h3 m y hy) e he).1 hle
      rw [hop]
      simp only [pureA,ev,hx1]
      exact hy1
    · cases hoe
  · cases hoe
structure Gd where
  i:Nat
  d:Tmp
  b:Bool
def grdQ:List Gd→Nat→St→Prop
  | [],_,_=>True
  | g :: G,n,s=>(if n=g.i then s.fr g.d=.bool g.b else True)∧grdQ G n s
theorem grdQ_nil {n:Nat}:grdQ [] n s=True:=rfl
theorem grdQ_cons {i d n:Nat} {b:Bool} {G:List Gd} {fr:AFrame} {h:Heap}:grdQ (⟨i,d,b⟩ :: G) n ⟨fr,h⟩=((if n=i then fr d=.bool b else True)∧grdQ G n ⟨fr,h⟩):=rfl
def grdOps (l:List Oper) (G:List Gd):Bool:=G.all fun g=>match l[g.i]? with
  | some o=>(match o.guard with|some (j,want)=>(match (l.toArray[j]?).bind (·.dst) with|some d=>d == g.d && want != g.b|none=>false)|none=>false)
  | none=>false
theorem WP_wild {id:Nat} {l:List Oper} (L:List Ld) (hd:drawOk (quietB P) true l.toArray=true) (hl:looseL true l.toArray=L.map (·.i)) (ho:ldsOps true l L=true) (hv:ldsLow s.h.length L)
    (h:∀ K:St→Prop,K=Q .normal→TRS P raw base l.toArray false (ldsQ P L) l 0 s K):WP P raw base (.region id l.toArray true) s Q:=by
  obtain ⟨s',h1,h2,h3⟩:=TRS_sound (h _ rfl)
  exact WP_safe (.inr ⟨hd,loose_of hl ho hv h1 h3⟩) h1 h2
theorem refsLow_int {n:Nat} {k:IntKind} {x:Int}:refsLow n (.int k x):=rfl
theorem refsLow_slice {n id v o m k:Nat} (h:id<n):refsLow n (.slice (some ⟨id,v,o⟩) m k):=by
  simp only [refsLow,AVal.refs]
  split<;>simp [h]
theorem refsLow_nil {n m k:Nat}:refsLow n (.slice none m k):=rfl
end
end Go.AM
namespace Go.AM
structure Enc (α:Type) where
  z:Nat
  cells:α→List AVal
  len:∀ x,(cells x).length=z
  pos:0<z
section
variable {α:Type} (E:Enc α)
def flat (l:List α):List AVal:=l.flatMap E.cells
theorem flat_nil:flat E []=[]:=rfl
theorem flat_cons {x:α} {l:List α}:flat E (x :: l)=E.cells x++flat E l:=rfl
theorem flat_app {l m:List α}:flat E (l++m)=flat E l++flat E m:=by simp [flat]
theorem flat_len (l:List α):(flat E l).length=l.length * E.z:=by
  induction l with
  | nil=>simp [flat]
  | cons x l ih=>rw [flat_cons,List.length_append,E.len,ih,List.length_cons,Nat.succ_mul,Nat.add_comm]
theorem flat_get:∀ {l:List α} {i:Nat} {x:α},l[i]?=some x→((flat E l).drop (i * E.z)).take E.z=E.cells x
  | [],i,x,h=>by simp at h
  | y :: l,0,x,h=>by
    simp at h;subst h
    rw [flat_cons,Nat.zero_mul,List.drop_zero,← E.len y,List.take_left]
  | y :: l,i+1,x,h=>by
    have h1:l[i]?=some x:=by simpa using h
    rw [flat_cons,show (i+1) * E.z=(E.cells y).length+i * E.z by rw [E.len,Nat.succ_mul,Nat.add_comm],List.drop_length_add_append]
    exact flat_get h1
theorem flat_set:∀ {l:List α} {i:Nat} {x:α},i<l.length→flat E (l.set i x)=(flat E l).take (i * E.z)++E.cells x++(flat E l).drop ((i+1) * E.z)
  | [],i,x,h=>by simp at h
  | y :: l,0,x,h=>by
    rw [List.set_cons_zero,flat_cons,flat_cons,Nat.zero_mul,List.take_zero,List.nil_append,Nat.zero_add,Nat.one_mul]
    congr 1
    rw [← E.len y,List.drop_left]
  | y :: l,i+1,x,h=>by
    have ih:=flat_set (l:=l) (i:=i) (x:=x) (by simpa using h)
    have e1:∀ n,(n+1) * E.z=(E.cells y).length+n * E.z:=fun n=>by rw [E.len,Nat.succ_mul,Nat.add_comm]
    rw [List.set_cons_succ,flat_cons,flat_cons,e1 i,e1 (i+1),List.take_length_add_append,List.drop_length_add_append,ih]
    simp only [List.append_assoc]
def Rows (h:Heap) (v:AVal) (l:List α):Prop :=
  l.length<2 ^ 60 ∧
  ((v=.slice .none 0 0∧l=[]) ∨ (v=.emp∧l=[]) ∨
   ∃ (r:ARef) (k:Nat) (c:List AVal) (e:TypeId) (row ro:Bool),v=.slice (some r) l.length k∧h[r.id]?=some ⟨.cells c e row ro,r.ver⟩∧(c.drop r.off).take (l.length * E.z)=flat E l∧r.off+l.length * E.z≤c.length∧l.length≤k)
end
def elAdr (v:AVal) (z i o:Nat):AVal:=match v with
  | .slice (some r) _ _=>.ptr (some (r.add (i * z+o)))
  | _=>.none
section
variable {α:Type} {E:Enc α} {P:Program} {h:Heap} {v:AVal} {l:List α} {t s e:TypeId} {zs:List AVal}
theorem Rows.ext {H:Heap} (hR:Rows E h v l) (x:Ext h H):Rows E H v l:=by
  refine ⟨hR.1,hR.2.imp id (.imp id ?_)⟩
  rintro ⟨r,k,c,e,row,ro,h1,h2,h3⟩
  exact ⟨r,k,c,e,row,ro,h1,x.get h2,h3⟩
theorem Rows.app {T:Heap} (hR:Rows E h v l):Rows E (h++T) v l:=hR.ext (.app .refl)
theorem Rows.set {i:Nat} {b:ABlk} (hR:Rows E h v l) (hv:∀ r n c,v=.slice (some r) n c→r.id ≠ i):Rows E (h.set i b) v l:=by
  refine ⟨hR.1,hR.2.imp id (.imp id ?_)⟩
  rintro ⟨r,k,c,e,row,ro,h1,h2,h3⟩
  exact ⟨r,k,c,e,row,ro,h1,by rw [List.getElem?_set_ne (fun q=>hv r _ _ h1 q.symm)];exact h2,h3⟩
theorem Rows.one (hR:Rows E h v l):One v:=by
  rcases hR.2 with ⟨rfl,_⟩|⟨rfl,_⟩|⟨r,k,c,e,row,ro,rfl,_⟩<;>exact ⟨rfl,rfl,rfl⟩
theorem Rows.len (hR:Rows E h v l) (ht:elS P t=some (e,E.z,zs)):lenOpA P h t v=some (.int .i64 (l.length:Int)):=by
  simp only [lenOpA,ht]
  rcases hR.2 with ⟨rfl,rfl⟩|⟨rfl,rfl⟩|⟨r,k,c,e,row,ro,rfl,_⟩<;>rfl
theorem Rows.addr (hR:Rows E h v l) (ht:elS P t=some (e,E.z,zs)) (ha:arT P t=.none) {i:Int} (h0:0≤i) (h1:i<l.length):indexAddrA P t v (.int .i64 i)=some (elAdr v E.z i.toNat 0):=by
  rcases hR.2 with ⟨rfl,rfl⟩|⟨rfl,rfl⟩|⟨r,k,c,e,row,ro,rfl,_⟩
  · simp at h1;omega
  · simp at h1;omega
  · simp only [indexAddrA,ha,ht,h0,h1,and_self,if_true,elAdr,Nat.add_zero]
theorem elAdr_field {i o f off n:Nat} {q:Bool} (hR:Rows E h v l) (hi:i<l.length) (hf:fld P s f=some (off,q,n)) (hz:n ≠ 0):fieldAddrA P s (elAdr v E.z i o) f=some (elAdr v E.z i (o+off)):=by
  rcases hR.2 with ⟨rfl,rfl⟩|⟨rfl,rfl⟩|⟨r,k,c,e,row,ro,rfl,_⟩
  · simp at hi
  · simp at hi
  · simp only [fieldAddrA,hf,elAdr,hz,if_false,ARef.add,Nat.add_assoc]
theorem Rows.load (hR:Rows E h v l) (ht:tyA P t=some (true,E.z)) {i:Nat} {x:α} (hx:l[i]?=some x):loadP P h t (elAdr v E.z i 0)=some (.agg (E.cells x)):=by
  have hi:=(List.getElem?_eq_some_iff.1 hx).1
  rcases hR.2 with ⟨rfl,rfl⟩|⟨rfl,rfl⟩|⟨r,k,c,e,row,ro,rfl,h2,h3,h4,_⟩
  · simp at hi
  · simp at hi
  · have hle:i * E.z+E.z≤l.length * E.z:=by rw [← Nat.succ_mul];exact Nat.mul_le_mul_right _ hi
    have hg:=flat_get E hx
    rw [← h3,List.drop_take,List.take_take,List.drop_drop,Nat.min_eq_left (by omega)] at hg
    simp only [loadP,elAdr,loadA,ht,loadN,cellsAt,ARef.add,h2,if_true,Nat.add_zero]
    rw [if_pos (show r.off+i * E.z+E.z≤c.length by omega)]
    simp only [Option.bind_some,mkVal,if_true]
    rw [hg]
theorem Rows.cell (hR:Rows E h v l) (ht:tyA P t=some (false,1)) {i o:Nat} {x:α} {a:AVal} (hx:l[i]?=some x) (ho:(E.cells x)[o]?=some a):loadP P h t (elAdr v E.z i o)=some a:=by
  have hi:=(List.getElem?_eq_some_iff.1 hx).1
  have hoz:=(List.getElem?_eq_some_iff.1 ho).1
  rw [E.len] at hoz
  rcases hR.2 with ⟨rfl,rfl⟩|⟨rfl,rfl⟩|⟨r,k,c,e,row,ro,rfl,h2,h3,h4,_⟩
  · simp at hi
  · simp at hi
  · have hle:i * E.z+E.z≤l.length * E.z:=by rw [← Nat.succ_mul];exact Nat.mul_le_mul_right _ hi
    have hg:=flat_get E hx
    rw [← h3,List.drop_take,List.take_take,List.drop_drop,Nat.min_eq_left (by omega)] at hg
    have hc:c[r.off+(i * E.z+o)]?=some a:=by
      rw [← hg,List.getElem?_take,if_pos hoz,List.getElem?_drop] at ho
      rw [← Nat.add_assoc];exact ho
    have hlt:=(List.getElem?_eq_some_iff.1 hc).1
    simp only [loadP,elAdr,loadA,ht,Bool.false_eq_true,if_false,loadN,cellsAt,ARef.add,h2,if_true]
    rw [if_pos (show r.off+(i * E.z+o)+1≤c.length from hlt),List.drop_eq_getElem_cons hlt,(List.getElem?_eq_some_iff.1 hc).2]
    rfl
def rowE (E:Enc α) (e:TypeId) (l:List α) (ver:Nat):ABlk:=⟨.cells (flat E l) e true false,ver⟩
theorem Rows.own {id ver n:Nat} (hg:h[id]?=some (rowE E e l ver)) (hn:n=l.length) (hl:l.length<2 ^ 60):Rows E h (.slice (some ⟨id,ver,0⟩) n n) l:=by
  subst hn
  refine ⟨hl,.inr (.inr ⟨⟨id,ver,0⟩,l.length,flat E l,e,true,false,rfl,hg,?_,?_,Nat.le_refl _⟩)⟩
  · rw [List.drop_zero,List.take_of_length_le (by rw [flat_len];exact Nat.le_refl _)]
  · rw [flat_len];exact Nat.le_of_eq (Nat.zero_add _)
theorem asRows (x:Rows E h v l):Rows E h v l:=x
theorem Rows.nil:Rows E h (.slice none 0 0) ([]:List α):=⟨by simp,.inl ⟨rfl,rfl⟩⟩
theorem Rows.firstN (hR:Rows E h v l):firstN h E.z l.length v=some (flat E l):=by
  rcases hR.2 with ⟨rfl,rfl⟩|⟨rfl,rfl⟩|⟨r,k,c,e,row,ro,rfl,h2,h3,h4,_⟩
  · rfl
  · rfl
  · simp only [Go.AM.firstN,loadN,cellsAt,h2,if_true,h4,h3]
theorem Rows.lenA (hR:Rows E h v l):Go.AM.lenA E.z v=some l.length:=by
  rcases hR.2 with ⟨rfl,rfl⟩|⟨rfl,rfl⟩|⟨r,k,c,e,row,ro,rfl,_⟩<;>rfl
end
section
variable {P:Program} {raw:FuncId→Bool} {base:Nat}
def Ret (P:Program) (raw:FuncId→Bool) (base:Nat) (f:AVal) (args:List AVal) (h:Heap) (Φ:AVal→Heap→Prop):Prop:=∃ v H,callL P raw base f args h=some (v,H)∧Φ v H
theorem ret_rawQ {f:FuncId} {fn:Func} {c:Code} {first captured args:List AVal} {h:Heap} {Φ:AVal→Heap→Prop} (hf:P.funcs[f]?=some fn) (hb:fn.body=some c) (hraw:raw f=true)
    (hw:WP P raw base c ⟨argFr (first++args++captured),h⟩ (retQ P fn Φ)) (hq:(insQ fn args || srtQ fn args)=false):Ret P raw base (.fn f first captured) args h Φ:=by
  obtain ⟨e,s',h1,h2⟩:=hw
  have hbA:=bodyA_of (args:=args) hb hq
  cases e with
  | exit id=>exact h2.elim
  | normal =>
    obtain ⟨v,h3,h4⟩:=h2
    exact ⟨v,s'.h,by unfold callL callWith;simp only [hf,hbA,hraw,if_true,h1,h3],h4⟩
  | ret =>
    obtain ⟨v,h3,h4⟩:=h2
    exact ⟨v,s'.h,by unfold callL callWith;simp only [hf,hbA,hraw,if_true,h1,h3],h4⟩
theorem ret_raw {f:FuncId} {fn:Func} {c:Code} {first captured args:List AVal} {h:Heap} {Φ:AVal→Heap→Prop} (hf:P.funcs[f]?=some fn) (hb:fn.body=some c) (hraw:raw f=true)
    (hw:WP P raw base c ⟨argFr (first++args++captured),h⟩ (retQ P fn Φ)) (hq:xtrQ fn=false:=by kernel_rfl):Ret P raw base (.fn f first captured) args h Φ :=
  ret_rawQ hf hb hraw hw (insQ_no hq)
theorem Ret.mono {f:AVal} {args:List AVal} {h:Heap} {Φ Ψ:AVal→Heap→Prop} (x:Ret P raw base f args h Φ) (k:∀ v H,Φ v H→Ψ v H):Ret P raw base f args h Ψ:=by
  obtain ⟨v,H,e,p⟩:=x
  exact ⟨v,H,e,k v H p⟩
end
end Go.AM
namespace Go.AM
section
variable {α:Type} {E:Enc α} {P:Program} {base b:Nat} {h H:Heap} {v x:AVal} {l m:List α} {t e:TypeId} {zs:List AVal}
def Own (E:Enc α) (e:TypeId) (b:Nat) (h:Heap) (v:AVal) (l:List α):Prop :=
  (v=.slice .none 0 0∧l=[]) ∨ ∃ id ver,v=.slice (some ⟨id,ver,0⟩) l.length l.length∧h[id]?=some (rowE E e l ver)∧b≤id∧0<l.length
theorem Own.nil:Own E e b h (.slice none 0 0) []:=.inl ⟨rfl,rfl⟩
theorem Own.rows (x:Own E e b h v l) (hl:l.length<2 ^ 60):Rows E h v l:=by
  rcases x with ⟨rfl,rfl⟩|⟨id,ver,rfl,h1,h2,h3⟩
  · exact Rows.nil
  · exact Rows.own h1 rfl hl
theorem Own.ext (x:Own E e b h v l) (y:Ext h H):Own E e b H v l:=by
  rcases x with ⟨rfl,rfl⟩|⟨id,ver,rfl,h1,h2,h3⟩
  · exact .nil
  · exact .inr ⟨id,ver,rfl,y.get h1,h2,h3⟩
theorem Own.app {T:Heap} (x:Own E e b h v l):Own E e b (h++T) v l:=x.ext (.app .refl)
theorem Own.set {i:Nat} {k:ABlk} (x:Own E e b h v l) (hi:i<b):Own E e b (h.set i k) v l:=by
  rcases x with ⟨rfl,rfl⟩|⟨id,ver,rfl,h1,h2,h3⟩
  · exact .nil
  · exact .inr ⟨id,ver,rfl,by rw [List.getElem?_set_ne (by omega)];exact h1,h2,h3⟩
theorem Own.low (x:Own E e b h v l) {b':Nat} (hb:b'≤b):Own E e b' h v l:=by
  rcases x with ⟨rfl,rfl⟩|⟨id,ver,rfl,h1,h2,h3⟩
  · exact .nil
  · exact .inr ⟨id,ver,rfl,h1,by omega,h3⟩
theorem Own.one (x:Own E e b h v l):One v:=by
  rcases x with ⟨rfl,rfl⟩|⟨id,ver,rfl,h1,h2,h3⟩<;>exact ⟨rfl,rfl,rfl⟩
theorem Own.low_refs (x:Own E e b h v l):_root_.Go.AM.refsLow h.length v:=by
  rcases x with ⟨rfl,rfl⟩|⟨id,ver,rfl,h1,h2,h3⟩
  · exact refsLow_nil
  · exact refsLow_slice (lt_of_get h1)
theorem flat_scalar (hs:∀ y,(E.cells y).all AVal.scalar=true) (l:List α):(flat E l).all AVal.scalar=true:=by
  induction l with
  | nil=>rfl
  | cons y l ih=>rw [flat_cons,List.all_append,hs,ih];rfl
theorem Own.append (hO:Own E e b h v l) (ht:elS P t=some (e,E.z,zs)) (hs:∀ y,(E.cells y).all AVal.scalar=true) (hb:base≤b) (hbh:b≤h.length) (hm:0<m.length) (hsz:l.length+m.length<2147483648)
    (hx1:lenA E.z x=some m.length) (hx2:firstN h E.z m.length x=some (flat E m)) :
    ∃ v' h',appendA P base h t v x=some (v',h')∧Own E e b h' v' (l++m)∧h.length≤h'.length∧(∀ G,G.length≤b→Ext G h→Ext G h')∧One v':=by
  have hne:m ≠ []:=by rintro rfl;simp at hm
  rcases hO with ⟨rfl,rfl⟩|⟨id,ver,rfl,h1,h2,h3⟩
  · refine ⟨.slice (some ⟨h.length,0,0⟩) m.length m.length,h++[rowE E e m 0],?_,.inr ⟨h.length,0,rfl,get_eq rfl,hbh,by simpa using hm⟩,by simp,fun G _ g=>.app g,⟨rfl,rfl,rfl⟩⟩
    simp only [appendA,ht,hx1,hx2,flat_scalar hs,if_true]
    rw [if_neg (by omega),if_pos (show m.length<2 ^ 31 by simp at hsz;omega)]
    rfl
  · refine ⟨.slice (some ⟨id,ver+1,0⟩) (l++m).length (l++m).length,h.set id (rowE E e (l++m) (ver+1)),?_,.inr ⟨id,ver+1,rfl,by rw [List.getElem?_set_self (lt_of_get h1)],h2,by simp;omega⟩,by simp,fun G hG g=>g.set (by omega),⟨rfl,rfl,rfl⟩⟩
    simp only [appendA,ht,hx1,hx2,flat_scalar hs,if_true]
    rw [if_neg (by omega),h1]
    simp only [rowE,flat_len]
    rw [if_pos ⟨trivial,trivial,trivial,trivial,show l.length+m.length<2 ^ 31 from hsz,h3,.inl (by omega)⟩]
    rw [List.take_of_length_le (by rw [flat_len];exact Nat.le_refl _),← flat_app,List.length_append]
theorem Own.appendR (hO:Own E e b h v l) (hR:Rows E h x m) (ht:elS P t=some (e,E.z,zs)) (hs:∀ y,(E.cells y).all AVal.scalar=true) (hb:base≤b) (hbh:b≤h.length) (hm:0<m.length) (hsz:l.length+m.length<2147483648) :
    ∃ v' h',appendA P base h t v x=some (v',h')∧Own E e b h' v' (l++m)∧h.length≤h'.length∧(∀ G,G.length≤b→Ext G h→Ext G h')∧One v' :=
  hO.append ht hs hb hbh hm hsz hR.lenA hR.firstN
theorem Own.append1 {y:α} {a:AVal} (hO:Own E e b h v l) (hz:E.z=1) (hy:E.cells y=[a]) (ht:elS P t=some (e,1,zs)) (hs:∀ y,(E.cells y).all AVal.scalar=true) (hb:base≤b) (hbh:b≤h.length) (hsz:l.length+1<2147483648) :
    ∃ v' h',appendA P base h t v (.vals [a])=some (v',h')∧Own E e b h' v' (l++[y])∧h.length≤h'.length∧(∀ G,G.length≤b→Ext G h→Ext G h')∧One v':=by
  refine hO.append (m:=[y]) (by rw [hz];exact ht) hs hb hbh (by simp) (by simpa using hsz) ?_ ?_
  · rw [hz];rfl
  · rw [hz];simp [firstN,flat,hy]
end
def encI:Enc Int:=⟨1,fun x=>[.int .i64 x],fun _=>rfl,by decide⟩
theorem flat_encI (l:List Int):flat encI l=ints l:=by
  induction l with
  | nil=>rfl
  | cons x l ih=>rw [flat_cons,ih];rfl
theorem encI_sc:∀ y,(encI.cells y).all AVal.scalar=true:=fun y=>by simp [encI,AVal.scalar]
theorem Rows.ints {h:Heap} {v:AVal} {l:List Int} (hR:Rows encI h v l) (hb:∀ x ∈ l,-9223372036854775808≤x∧x<9223372036854775808):Ints h v l:=by
  refine ⟨⟨hR.1,hb⟩,hR.2.imp id (.imp id ?_)⟩
  rintro ⟨r,k,c,e,row,ro,h1,h2,h3,h4,h5⟩
  rw [flat_encI,show encI.z=1 from rfl,Nat.mul_one] at h3
  rw [show encI.z=1 from rfl,Nat.mul_one] at h4
  exact ⟨r,k,c,e,row,ro,h1,h2,h3,h4,h5⟩
theorem Ints.rows {h:Heap} {v:AVal} {l:List Int} (hI:Ints h v l):Rows encI h v l:=by
  refine ⟨hI.1.1,hI.2.imp id (.imp id ?_)⟩
  rintro ⟨r,k,c,e,row,ro,h1,h2,h3,h4,h5⟩
  refine ⟨r,k,c,e,row,ro,h1,h2,?_,?_,h5⟩
  · rw [flat_encI,show encI.z=1 from rfl,Nat.mul_one];exact h3
  · rw [show encI.z=1 from rfl,Nat.mul_one];exact h4
theorem agq {p:Prop} (h:p:=by (repeat first|exact Agree.refl|assumption|refine Agree.put rfl ?_|refine Agree.put0 ?_|refine Agree.sub rfl (by assumption) ?_)):p:=h
end Go.AM
