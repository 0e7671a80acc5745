/-
  Contracts: looms that are copied and compared; whether a loom is more than what is looked at.
-/
import Derived.Test.YtlhmeoeamcgcmaaGreatE35
set_option linter.unusedSimpArgs false
set_option linter.unusedVariables false
namespace Go.AM
open Go.Proofs.Tryz
attribute [-go_sem] put_ne put_same
attribute [local go_sem ↓] put_if
theorem splice_at:∀ (vs c pre:List AVal),c.length=vs.length→splice (pre++c) pre.length vs=pre++vs
 | [],c,pre,h=>by rw [List.eq_nil_of_length_eq_zero h];rfl
 | v :: vs,[],pre,h=>by simp at h
 | v :: vs,x :: c,pre,h=>by
  rw [splice,List.set_append_right _ _ (Nat.le_refl _),Nat.sub_self,List.set_cons_zero]
  have:=splice_at vs c (pre++[v]) (by simpa using h)
  simpa using this
theorem splice_all {vs c:List AVal} (h:c.length=vs.length):splice c 0 vs=vs:=by simpa using splice_at vs c [] h
def OwnE {α:Type} (E:Enc α) (e:TypeId) (b:Nat) (H:Heap) (v:AVal) (l:List α):Prop:=Own E e b H v l ∨ (v=.emp∧l=[])
section
variable {α:Type} {E:Enc α} {e e2 t:TypeId} {b base:Nat} {H H' A:Heap} {v x:AVal} {l:List α} {zs:List AVal}
theorem OwnE.ext (y:OwnE E e b H v l) (q:Ext H H'):OwnE E e b H' v l:=y.imp (fun z=>z.ext q) id
theorem OwnE.setBox {k:ABlk} {a:Nat} {c:List AVal} {t:TypeId} {ro:Bool} {u:Nat} (y:OwnE E e b H v l) (hg:H[a]?=some ⟨.cells c t false ro,u⟩):OwnE E e b (H.set a k) v l:=y.imp (fun z=>z.setBox hg) id
theorem OwnE.low {b':Nat} (y:OwnE E e b H v l) (hb:b'≤b):OwnE E e b' H v l:=y.imp (fun z=>z.low hb) id
theorem OwnE.one (y:OwnE E e b H v l):One v:=by
 rcases y with y|⟨rfl,_⟩
 ·exact y.one
 ·exact ⟨rfl,rfl,rfl⟩
theorem OwnE.rows (y:OwnE E e b H v l) (hl:l.length<2 ^ 60):Rows E H v l:=by
 rcases y with y|⟨rfl,rfl⟩
 ·exact y.rows hl
 ·exact ⟨hl,.inr (.inl ⟨rfl,rfl⟩)⟩
theorem KeepO.ownE {β:Type} {E2:Enc β} {l2:List β} (k:KeepO E e H H') (y:OwnE E2 e2 b H v l2) (hne:e2 ≠ e):OwnE E2 e2 b H' v l2:=y.imp (fun z=>k.own z hne) id
theorem app_fill {n:Nat} (hR:Rows E A x l) (ht:elS prog t=some (e,E.z,zs)) (hz:zs.length=E.z) (hs:∀ y,(E.cells y).all AVal.scalar=true) (hn:n=l.length) (hb:base≤A.length) :
  appendA prog base (A++[⟨.cells (repCells zs n) e true false,0⟩]) t (.slice (some ⟨A.length,0,0⟩) 0 n) x=some (.slice (some ⟨A.length,0,0⟩) n n,A++[rowE E e l 0]):=by
 subst hn
 have hR':=hR.app (T:=[⟨.cells (repCells zs l.length) e true false,0⟩])
 have hc:(repCells zs l.length).length=(flat E l).length:=by rw [repCells_length,flat_len,hz]
 simp only [appendA,ht,hR'.lenA,hR'.firstN,flat_scalar hs,if_true,Nat.zero_add,Nat.le_refl,storeN,ARef.add,Nat.zero_mul,Nat.add_zero]
 rw [List.getElem?_append_right (Nat.le_refl _),Nat.sub_self,List.getElem?_cons_zero]
 simp only
 rw [if_pos ⟨trivial,by rw [hc];omega,trivial,.inl hb⟩,List.set_append_right _ _ (Nat.le_refl _),Nat.sub_self,splice_all hc]
 rfl
theorem app_none (hR:Rows E A x []) (ht:elS prog t=some (e,E.z,zs)):appendA prog base A t .emp x=some (.emp,A):=by
 have h1:=hR.lenA
 have h2:=hR.firstN
 simp only [flat_nil,List.length_nil] at h1 h2
 simp only [appendA,ht,h1,h2,List.all_nil,if_true]
end
theorem mk_room {t e:TypeId} {z:Nat} {zs:List AVal} {h:Heap} {n:Nat} (ht:elS prog t=some (e,z,zs)) (h0:0<n) (hn:n<4294967296):makeSliceA prog h t (.int .i64 0) (.int .i64 (n:Int))=some (.slice (some ⟨h.length,0,0⟩) 0 n,h++[⟨.cells (repCells zs n) e true false,0⟩]):=by
 simp only [makeSliceA,ht]
 rw [if_pos ⟨by omega,by omega,by omega⟩,if_neg (by omega)]
 simp
theorem mk_none {t e:TypeId} {z:Nat} {zs:List AVal} {h:Heap} (ht:elS prog t=some (e,z,zs)):makeSliceA prog h t (.int .i64 0) (.int .i64 0)=some (.emp,h):=by
 simp [makeSliceA,ht]
theorem run_dupI {base:Nat} {h:Heap} {v:AVal} {l:List Int} (hb:base≤h.length) (hI:Ints h v l) (hl:l.length≤1000) :
  Ret prog raw base (.fn 67 [] []) [v] h (fun w H=>Ext h H∧OwnE encI 3 h.length H w l):=by
 have ho:=hI.one
 refine ret_raw func67 rfl (by kernel_rfl) ?_
 by_cases hl0:l=[]
 ·subst hl0
  have ha:=fun base=>app_none (base:=base) hI.rows Fc.el36
  have hsp:=@Nat.succ_ne_zero;repeat' (first|simp (disch:=first|exact dq|fail) only [go_sem,↓reduceIte,hsp,mk_none Fc.el36,ha,List.length_nil,Int.natCast_zero]|refine WP_drw ?_|refine cnd_intro (fun hsp=>?_) fun hsp=>?_)
  exact ⟨.refl,.inr ⟨rfl,rfl⟩⟩
 ·have hl1:0<l.length:=List.length_pos_iff.2 hl0
  have hm:=mk_room (h:=h) (n:=l.length) Fc.el36 hl1 (by omega)
  have ha:=app_fill (base:=base) hI.rows Fc.el36 rfl encI_sc rfl hb
  have hsp:=@Nat.succ_ne_zero;repeat' (first|simp (disch:=first|exact dq|fail) only [go_sem,↓reduceIte,hsp,hm,ha]|refine WP_drw ?_|refine cnd_intro (fun hsp=>?_) fun hsp=>?_)
  exact ⟨.app .refl,.inl (.inr ⟨h.length,0,rfl,get_eq rfl,Nat.le_refl _,hl1⟩)⟩
theorem run_dupS {base:Nat} {h:Heap} {v:AVal} {l:List Sgt} (hb:base≤h.length) (hR:Rows encS h v l) (hl:l.length≤1000) :
  Ret prog raw base (.fn 66 [] []) [v] h (fun w H=>Ext h H∧OwnE encS 56 h.length H w l):=by
 have ho:=hR.one
 have hn:=hR.len Fc.el23
 refine ret_raw func66 rfl (by kernel_rfl) ?_
 by_cases hl0:l=[]
 ·subst hl0
  have ha:=fun base=>app_none (base:=base) hR Fc.el23
  have hsp:=@Nat.succ_ne_zero;repeat' (first|simp (disch:=first|exact dq|fail) only [go_sem,↓reduceIte,hsp,hn,mk_none Fc.el23,ha,List.length_nil,Int.natCast_zero]|refine WP_drw ?_|refine cnd_intro (fun hsp=>?_) fun hsp=>?_)
  exact ⟨.refl,.inr ⟨rfl,rfl⟩⟩
 ·have hl1:0<l.length:=List.length_pos_iff.2 hl0
  have hm:=mk_room (h:=h) (n:=l.length) Fc.el23 hl1 (by omega)
  have ha:=app_fill (base:=base) hR Fc.el23 rfl encS_sc rfl hb
  have hsp:=@Nat.succ_ne_zero;repeat' (first|simp (disch:=first|exact dq|fail) only [go_sem,↓reduceIte,hsp,hn,hm,ha]|refine WP_drw ?_|refine cnd_intro (fun hsp=>?_) fun hsp=>?_)
  exact ⟨.app .refl,.inl (.inr ⟨h.length,0,rfl,get_eq rfl,Nat.le_refl _,hl1⟩)⟩
def OwnQ (b:Nat) (H:Heap) (pv:AVal) (ps:List Prt):Prop:=∃ vs:List PrtV,Own encP 81 b H pv vs∧vs.length=ps.length∧∀ (i:Nat) x p,vs[i]?=some x→ps[i]?=some p→OwnE encI 3 b H x.v p.rib∧x.each=p.each∧x.ph=p.ph∧x.wv=p.wv
section
variable {b:Nat} {H H':Heap} {pv:AVal} {ps:List Prt}
theorem OwnQ.nil:OwnQ b H (.slice none 0 0) []:=⟨[],.nil,rfl,fun i x p h=>by simp at h⟩
theorem OwnQ.mapH (x:OwnQ b H pv ps) (f1:∀ v l,Own encP 81 b H v l→Own encP 81 b H' v l) (f2:∀ v l,OwnE encI 3 b H v l→OwnE encI 3 b H' v l):OwnQ b H' pv ps:=by
 obtain ⟨vs,h1,h2,h3⟩:=x
 exact ⟨vs,f1 _ _ h1,h2,fun i x p a c=>⟨f2 _ _ (h3 i x p a c).1,(h3 i x p a c).2⟩⟩
theorem OwnQ.ext (x:OwnQ b H pv ps) (e:Ext H H'):OwnQ b H' pv ps:=x.mapH (fun _ _ y=>y.ext e) fun _ _ y=>y.ext e
theorem OwnQ.setBox {k:ABlk} {a:Nat} {c:List AVal} {t:TypeId} {ro:Bool} {u:Nat} (x:OwnQ b H pv ps) (hg:H[a]?=some ⟨.cells c t false ro,u⟩):OwnQ b (H.set a k) pv ps:=x.mapH (fun _ _ y=>y.setBox hg) fun _ _ y=>y.setBox hg
theorem OwnQ.one (x:OwnQ b H pv ps):One pv:=by obtain ⟨vs,h1,_⟩:=x;exact h1.one
theorem OwnQ.low {b':Nat} (x:OwnQ b H pv ps) (hb:b'≤b):OwnQ b' H pv ps:=by
 obtain ⟨vs,h1,h2,h3⟩:=x
 exact ⟨vs,h1.low hb,h2,fun i x p a c=>⟨(h3 i x p a c).1.low hb,(h3 i x p a c).2⟩⟩
theorem OwnQ.parts (x:OwnQ b H pv ps) (hl:ps.length<2 ^ 60) (hs:∀ p ∈ ps,Small p.rib):Parts H pv ps:=by
 obtain ⟨vs,h1,h2,h3⟩:=x
 exact ⟨vs,h1.rows (by omega),h2,fun i x p a c=>⟨((h3 i x p a c).1.rows (by have:=(hs p (List.mem_of_getElem? c)).1;omega)).ints (hs p (List.mem_of_getElem? c)).2,(h3 i x p a c).2⟩⟩
theorem OwnQ.snoc {h:Heap} {base:Nat} {w:AVal} {p:Prt} (x:OwnQ b h pv ps) (hw:OwnE encI 3 b h w p.rib) (hb:base≤b) (hbh:b≤h.length) (hl:ps.length≤1000) (hg:h[h.length-1]?=some (rowE encP 81 [⟨w,p.each,p.ph,p.wv⟩] 0)) :
  ∃ v' h',appendA prog base h 22 pv (.slice (some ⟨h.length-1,0,0⟩) 1 1)=some (v',h')∧OwnQ b h' v' (ps++[p])∧h.length≤h'.length∧(∀ G,G.length≤b→Ext G h→Ext G h')∧One v'∧KeepO encP 81 h h':=by
 obtain ⟨vs,h1,h2,h3⟩:=x
 obtain ⟨v',h',a1,a2,a3,a4,a5,a6⟩:=h1.appendRX (P:=prog) (base:=base) (t:=22) (Rows.own hg rfl (by simp)) Fc.el22 encP_sc hb hbh (by simp) (by simp;omega)
 refine ⟨v',h',a1,⟨_,a2,by simp [h2],fun i y q g1 g2=>?_⟩,a3,a4,a5,a6⟩
 have kp:KeepO encP 81 h h':=a6
 by_cases hi:i<vs.length
 ·rw [List.getElem?_append_left hi] at g1
  rw [List.getElem?_append_left (by omega)] at g2
  exact ⟨kp.ownE (h3 i y q g1 g2).1 (by decide),(h3 i y q g1 g2).2⟩
 ·rw [List.getElem?_append_right (by omega)] at g1
  rw [List.getElem?_append_right (by omega)] at g2
  have e0:i-vs.length=0:=by
   have:=(List.getElem?_eq_some_iff.1 g1).1
   simp at this;omega
  rw [e0] at g1
  rw [show i-ps.length=0 by omega] at g2
  cases g1;cases g2
  exact ⟨kp.ownE hw (by decide),rfl,rfl,rfl⟩
end
theorem run_eqS0 {base:Nat} {h:Heap} {a b:AVal} {l:List Sgt} (ha:Rows encS h a l) (hb:Rows encS h b l) (hl:l.length≤1000):callL prog raw base (.fn 142 [] []) [a,b] h=some (.bool true,h):=by
 have h1:=ha.len Fc.el23
 have h2:=hb.len Fc.el23
 have oa:=ha.one
 have ob:=hb.one
 refine callL_run func142 rfl rfl ?_
 have hsp:=@Nat.succ_ne_zero;repeat' (first|simp (disch:=first|exact dq|fail) only [go_sem,↓reduceIte,hsp,h1,h2]|refine WP_drw ?_|refine cnd_intro (fun hsp=>?_) fun hsp=>?_)
 refine WP_count [(4,5),(13,25)] 0 l.length (Nat.zero_le _) (fun H0 n fr h'=>fr 13=.int .i64 (n:Int)∧h'=H0) ?_ ?_ ?_
 ·exact ⟨by (simp (disch:=first|exact dq|fail) only [go_sem,↓reduceIte,Int.natCast_zero];first|done|rfl),rfl⟩
 ·rintro n fr H hn0 hn hA ⟨r13,eH⟩
  subst eH
  have p0:=hA 0 rfl
  have p1:=hA 1 rfl
  have p12:=hA 12 rfl
  try simp (disch:=first|exact dq|fail) only [go_sem,↓reduceIte] at p0 p1 p12
  have hlt:((n:Int)<(l.length:Int))=True:=eq_true (by omega)
  have hx:=getD_some (d:=sgt0) hn
  obtain ⟨x,ex⟩:∃ x,x=l.getD n sgt0:=⟨_,rfl⟩
  rw [← ex] at hx
  have a1:=ha.addr (P:=prog) (i:=(n:Int)) Fc.el23 Fc.ar23 (by omega) (by omega)
  have a2:=hb.addr (P:=prog) (i:=(n:Int)) Fc.el23 Fc.ar23 (by omega) (by omega)
  rw [Int.toNat_natCast] at a1 a2
  have d1:loadP prog H 56 (elAdr a encS.z n 0)=some (.agg [.int .i64 x.rib,.int .i64 x.lo,.int .i64 x.hi,.bool x.bad]):=ha.load (P:=prog) Fc.ty56 hx
  have d2:loadP prog H 56 (elAdr b encS.z n 0)=some (.agg [.int .i64 x.rib,.int .i64 x.lo,.int .i64 x.hi,.bool x.bad]):=hb.load (P:=prog) Fc.ty56 hx
  have hsp:=@Nat.succ_ne_zero;repeat' (first|simp (disch:=first|exact dq|fail) only [go_sem,↓reduceIte,hsp,r13,p0,p1,p12,hlt,a1,a2,d1,d2,Fc.ne56,eq_self,and_self,not_true,decide_false]|refine WP_drw ?_|refine cnd_intro (fun hsp=>?_) fun hsp=>?_)
  exact ⟨agq,by omega⟩
 ·rintro fr H hA ⟨r13,eH⟩
  subst eH
  have p0:=hA 0 rfl
  have p1:=hA 1 rfl
  have p12:=hA 12 rfl
  try simp (disch:=first|exact dq|fail) only [go_sem,↓reduceIte] at p0 p1 p12
  have hlt:((l.length:Int)<(l.length:Int))=False:=eq_false (by omega)
  have hsp:=@Nat.succ_ne_zero;repeat' (first|simp (disch:=first|exact dq|fail) only [go_sem,↓reduceIte,hsp,r13,p0,p1,p12,hlt]|refine WP_drw ?_|refine cnd_intro (fun hsp=>?_) fun hsp=>?_)
  exact fB rfl
theorem run_eqS {base:Nat} {h:Heap} {a b:AVal} {l:List Sgt} (ha:Rows encS h a l) (hb:Rows encS h b l) (hl:l.length≤1000):callL prog raw base (.fn 90 [] []) [a,b] h=some (.bool true,h):=by
 have e:=fun base=>run_eqS0 (base:=base) ha hb hl
 refine callL_run func90 rfl rfl ?_
 have hsp:=@Nat.succ_ne_zero;repeat' (first|simp (disch:=first|exact dq|fail) only [go_sem,↓reduceIte,hsp,e]|refine WP_drw ?_|refine cnd_intro (fun hsp=>?_) fun hsp=>?_)
 exact fB rfl
set_option maxHeartbeats 1000000 in
theorem run_same {base:Nat} {h:Heap} {v w:AVal} {L:Lom} (hv:LomAt h v L) (hw:LomAt h w L) (hpl:L.ps.length≤1000) (hsl:L.ss.length≤1000):callL prog raw base (.fn 26 [] []) [v,w] h=some (.bool true,h):=by
 obtain ⟨pv,sv,rfl,hP,hS⟩:=hv
 obtain ⟨pw,sw,rfl,hP2,hS2⟩:=hw
 have o1:=hP.one
 have o2:=hS.one
 have o3:=hP2.one
 have o4:=hS2.one
 have x2:∀ {a b:ABlk},Ext h (h++[a]++[b]):=fun {a b}=>.app (.app .refl)
 have l1:∀ {a b:ABlk},lenOpA prog (h++[a]++[b]) 22 pv=some (.int .i64 (L.ps.length:Int)):=fun {a b}=>(hP.ext x2).len
 have l2:∀ {a b:ABlk},lenOpA prog (h++[a]++[b]) 22 pw=some (.int .i64 (L.ps.length:Int)):=fun {a b}=>(hP2.ext x2).len
 have e1:∀ {base:Nat} {a b:ABlk},callL prog raw base (.fn 90 [] []) [sv,sw] (h++[a]++[b])=some (.bool true,h++[a]++[b]):=fun {base a b}=>run_eqS (hS.ext x2) (hS2.ext x2) hsl
 refine callL_run func26 rfl rfl ?_
 have hsp:=@Nat.succ_ne_zero;repeat' (first|simp (disch:=first|exact dq|fail) only [go_sem,↓reduceIte,hsp,l1,l2,e1,Bool.not_true,Bool.false_eq_true,eq_self,not_true,decide_false]|refine WP_drw ?_|refine cnd_intro (fun hsp=>?_) fun hsp=>?_)
 refine WP_count [(4,7),(40,77)] 0 L.ps.length (Nat.zero_le _) (fun H0 n fr h'=>fr 40=.int .i64 (n:Int)∧Ext H0 h') ?_ ?_ ?_
 ·exact ⟨by (simp (disch:=first|exact dq|fail) only [go_sem,↓reduceIte,Int.natCast_zero];first|done|rfl),.refl⟩
 ·rintro n fr H hn0 hn hA ⟨r40,xH⟩
  have p3:=hA 3 rfl
  have p38:=hA 38 rfl
  have p39:=hA 39 rfl
  try simp (disch:=first|exact dq|fail) only [go_sem,↓reduceIte] at p3 p38 p39
  have hlt:((n:Int)<(L.ps.length:Int))=True:=eq_true (by omega)
  have xh:=x2.trans xH
  have hHl:=xh.len
  have hq:L.ps[n]?=some L.ps[n]:=List.getElem?_eq_getElem hn
  obtain ⟨q,eq⟩:∃ q,q=L.ps[n]:=⟨_,rfl⟩
  rw [← eq] at hq
  obtain ⟨a1,r1,_,ad1,ld1,i1,_,_⟩:=(hP.ext xh).at hq
  obtain ⟨a2,r2,_,ad2,ld2,i2,_,_⟩:=(hP2.ext xh).at hq
  have d1:∀ {T:Heap},loadP prog (H++T) 81 a1=some (.agg [r1,.int .i64 q.each,.int .i64 q.ph,.bool q.wv]):=fun {T}=>ld1 _ (.app .refl)
  have d2:∀ {a:ABlk},loadP prog (H++[a]) 81 a2=some (.agg [r2,.int .i64 q.each,.int .i64 q.ph,.bool q.wv]):=fun {a}=>ld2 _ (.app .refl)
  have d10:=ld1 H .refl
  have d20:=ld2 H .refl
  have q1:=i1.one
  have q2:=i2.one
  have g1:H[h.length]?=some ⟨.cells [.int .i64 L.R,.int .i64 L.T,pv,sv] 25 false false,0⟩:=xH.get (by simp)
  have g2:H[h.length+1]?=some ⟨.cells [.int .i64 L.R,.int .i64 L.T,pw,sw] 25 false false,0⟩:=xH.get (by simp)
  have g1':∀ {T:Heap},(H++T)[h.length]?=_:=fun {T}=>get_app g1
  have g2':∀ {T:Heap},(H++T)[h.length+1]?=_:=fun {T}=>get_app g2
  have hsp:=@Nat.succ_ne_zero;repeat' (first|simp (disch:=first|exact dq|fail) only [go_sem,↓reduceIte,hsp,r40,p3,p38,p39,hlt,ad1,ad2,d1,d2,d10,d20,g1,g2,g1',g2',run_eqI,eq_self,decide_true,not_true,decide_false,Bool.not_true,Bool.false_eq_true,neB]|refine WP_drw ?_|refine cnd_intro (fun hsp=>?_) fun hsp=>?_)
  exact ⟨agq,by omega,xH.trans (.app (.app .refl))⟩
 ·rintro fr H hA ⟨r40,xH⟩
  have p3:=hA 3 rfl
  have p38:=hA 38 rfl
  have p39:=hA 39 rfl
  try simp (disch:=first|exact dq|fail) only [go_sem,↓reduceIte] at p3 p38 p39
  have hlt:((L.ps.length:Int)<(L.ps.length:Int))=False:=eq_false (by omega)
  have hsp:=@Nat.succ_ne_zero;repeat' (first|simp (disch:=first|exact dq|fail) only [go_sem,↓reduceIte,hsp,r40,p3,p38,p39,hlt]|refine WP_drw ?_|refine cnd_intro (fun hsp=>?_) fun hsp=>?_)
  exact fB rfl (x2.trans xH)
end Go.AM
namespace Go.AM
open Go.Proofs.Tryz
attribute [-go_sem] put_ne put_same
attribute [local go_sem ↓] put_if
def rbs (ps:List Prt):Bool:=ps.any fun p=>decide (9<p.rib.length)
def grtM (L:Lom):Bool:=decide (9<L.ps.length) || decide (14<L.ss.length) || rbs L.ps
set_option maxHeartbeats 1000000 in
theorem run_great {base:Nat} {h:Heap} {v:AVal} {L:Lom} (hL:LomAt h v L):callL prog raw base (.fn 42 [] []) [v] h=some (.bool (grtM L),h):=by
 obtain ⟨pv,sv,rfl,hP,hS⟩:=hL
 have o1:=hP.one
 have o2:=hS.one
 have l1:∀ {a:ABlk},lenOpA prog (h++[a]) 22 pv=some (.int .i64 (L.ps.length:Int)):=fun {a}=>(hP.ext (.app .refl)).len
 have l2:∀ {a:ABlk},lenOpA prog (h++[a]) 23 sv=some (.int .i64 (L.ss.length:Int)):=fun {a}=>(hS.ext (.app .refl)).len Fc.el23
 unfold grtM
 refine callL_run func42 rfl rfl ?_
 by_cases c1:9<L.ps.length
 ·have t1:((L.ps.length:Int) > 9)=True:=eq_true (by omega)
  have hsp:=@Nat.succ_ne_zero;repeat' (first|simp (disch:=first|exact dq|fail) only [go_sem,↓reduceIte,hsp,l1,t1]|refine WP_drw ?_|refine cnd_intro (fun hsp=>?_) fun hsp=>?_)
  refine fB ?_
  rw [decide_eq_true c1];rfl
 ·have t1:((L.ps.length:Int) > 9)=False:=eq_false (by omega)
  by_cases c2:14<L.ss.length
  ·have t2:((L.ss.length:Int) > 14)=True:=eq_true (by omega)
   have hsp:=@Nat.succ_ne_zero;repeat' (first|simp (disch:=first|exact dq|fail) only [go_sem,↓reduceIte,hsp,l1,l2,t1,t2]|refine WP_drw ?_|refine cnd_intro (fun hsp=>?_) fun hsp=>?_)
   refine fB ?_
   rw [decide_eq_true c2,Bool.or_true];rfl
  ·have t2:((L.ss.length:Int) > 14)=False:=eq_false (by omega)
   rw [decide_eq_false c1,decide_eq_false c2,Bool.false_or,Bool.false_or]
   have hsp:=@Nat.succ_ne_zero;repeat' (first|simp (disch:=first|exact dq|fail) only [go_sem,↓reduceIte,hsp,l1,l2,t1,t2]|refine WP_drw ?_|refine cnd_intro (fun hsp=>?_) fun hsp=>?_)
   refine WP_count [(2,4),(18,26)] 0 L.ps.length (Nat.zero_le _) (fun H0 n fr h'=>fr 18=.int .i64 (n:Int)∧Ext H0 h'∧∀ j,j<n→(L.ps.getD j prt0).rib.length≤9) ?_ ?_ ?_
   ·exact ⟨by (simp (disch:=first|exact dq|fail) only [go_sem,↓reduceIte,Int.natCast_zero];first|done|rfl),.refl,fun j hj=>by omega⟩
   ·rintro n fr H hn0 hn hA ⟨r18,xH,hno⟩
    have p16:=hA 16 rfl
    have p17:=hA 17 rfl
    try simp (disch:=first|exact dq|fail) only [go_sem,↓reduceIte] at p16 p17
    have hlt:((n:Int)<(L.ps.length:Int))=True:=eq_true (by omega)
    have xh:Ext h H:=(Ext.app .refl).trans xH
    have hHl:=xh.len
    obtain ⟨q,eq⟩:∃ q,q=L.ps.getD n prt0:=⟨_,rfl⟩
    have hq:L.ps[n]?=some q:=by rw [eq];exact getD_some hn
    obtain ⟨a1,r1,_,ad1,ld1,i1,_,_⟩:=(hP.ext xh).at hq
    have d10:=ld1 H .refl
    have q1:=i1.one
    by_cases c3:9<q.rib.length
    ·have t3:((q.rib.length:Int) > 9)=True:=eq_true (by omega)
     have hsp:=@Nat.succ_ne_zero;repeat' (first|simp (disch:=first|exact dq|fail) only [go_sem,↓reduceIte,hsp,r18,p16,p17,hlt,ad1,d10,t3]|refine WP_drw ?_|refine cnd_intro (fun hsp=>?_) fun hsp=>?_)
     exact fB (List.any_eq_true.2 ⟨q,List.mem_of_getElem? hq,decide_eq_true c3⟩).symm (xh.trans (.app .refl))
    ·have t3:((q.rib.length:Int) > 9)=False:=eq_false (by omega)
     have hsp:=@Nat.succ_ne_zero;repeat' (first|simp (disch:=first|exact dq|fail) only [go_sem,↓reduceIte,hsp,r18,p16,p17,hlt,ad1,d10,t3]|refine WP_drw ?_|refine cnd_intro (fun hsp=>?_) fun hsp=>?_)
     refine ⟨agq,by omega,xH.trans (.app .refl),fun j hj=>?_⟩
     by_cases e:j=n
     ·subst e;rw [← eq];omega
     ·exact hno j (by omega)
   ·rintro fr H hA ⟨r18,xH,hno⟩
    have p16:=hA 16 rfl
    have p17:=hA 17 rfl
    try simp (disch:=first|exact dq|fail) only [go_sem,↓reduceIte] at p16 p17
    have hlt:((L.ps.length:Int)<(L.ps.length:Int))=False:=eq_false (by omega)
    have hsp:=@Nat.succ_ne_zero;repeat' (first|simp (disch:=first|exact dq|fail) only [go_sem,↓reduceIte,hsp,r18,p16,p17,hlt]|refine WP_drw ?_|refine cnd_intro (fun hsp=>?_) fun hsp=>?_)
    refine fB ?_ ((Ext.app .refl).trans xH)
    symm
    rw [Bool.eq_false_iff]
    intro q
    obtain ⟨p,hp,hq⟩:=List.any_eq_true.1 q
    obtain ⟨j,hj,rfl⟩:=List.getElem_of_mem hp
    have:=hno j hj
    rw [getD_at hj] at this
    have:=of_decide_eq_true hq
    omega
set_option maxHeartbeats 2000000 in
theorem run_own {base:Nat} {h:Heap} {v:AVal} {L:Lom} (hb:base≤h.length) (hL:LomAt h v L) (hpl:L.ps.length≤1000) (hsl:L.ss.length≤1000) (hr:∀ p ∈ L.ps,p.rib.length≤1000) :
  Ret prog raw base (.fn 13 [] []) [v] h (fun w H=>Ext h H∧∃ pv sv,w=lomV L.R L.T pv sv∧OwnQ h.length H pv L.ps∧OwnE encS 56 h.length H sv L.ss):=by
 obtain ⟨pv,sv,rfl,hP,hS⟩:=hL
 have o1:=hP.one
 have o2:=hS.one
 have x2:∀ {a b:ABlk},Ext h (h++[a]++[b]):=fun {a b}=>.app (.app .refl)
 obtain ⟨H0,eH0⟩:∃ H0,H0=h++[lmB L.R L.T pv sv]++[lmB 0 0 (.slice none 0 0) (.slice none 0 0)]:=⟨_,rfl⟩
 have xh0:Ext h H0:=by rw [eH0];exact x2
 have hl0:H0.length=h.length+2:=by rw [eH0];simp
 obtain ⟨sw,H1,e1,x1,oS⟩:=run_dupS (base:=base) (by have:=xh0.len;omega) (hS.ext xh0) hsl
 have hw1:=oS.one
 have g0:H0[h.length]?=some (lmB L.R L.T pv sv):=by rw [eH0];exact get_app (get_eq rfl)
 have g00:H0[h.length+1]?=some (lmB 0 0 (.slice none 0 0) (.slice none 0 0)):=by rw [eH0];exact get_eq (by simp)
 have g1:=x1.get g0
 have g11:=x1.get g00
 have hH1:=x1.len
 have xh1:=xh0.trans x1
 have l1:∀ {a:ABlk},lenOpA prog (H1++[a]) 22 pv=some (.int .i64 (L.ps.length:Int)):=fun {a}=>(hP.ext (xh1.trans (.app .refl))).len
 have g1':∀ {a:ABlk},(H1++[a])[h.length]?=_:=fun {a}=>get_app g1
 have g0e:(h++[lmB L.R L.T pv sv]++[lmB 0 0 (.slice none 0 0) (.slice none 0 0)])[h.length]?=some (lmB L.R L.T pv sv):=get_app (get_eq rfl)
 refine ret_raw func13 rfl (by kernel_rfl) ?_
 have hsp:=@Nat.succ_ne_zero;repeat' (first|simp (disch:=first|exact dq|fail) only [go_sem,↓reduceIte,hsp,← eH0,e1,g0,g1,g1',l1]|refine WP_drw ?_|refine cnd_intro (fun hsp=>?_) fun hsp=>?_)
 refine WP_count [(5,5),(17,31)] 0 L.ps.length (Nat.zero_le _) (fun _ n fr h'=>fr 17=.int .i64 (n:Int)∧Ext H1 h'∧∃ qv,h'[H1.length]?=some (lmB L.R L.T qv sw)∧OwnQ (H1.length+1) h' qv (L.ps.take n)) ?_ ?_ ?_
 ·exact ⟨by (simp (disch:=first|exact dq|fail) only [go_sem,↓reduceIte,Int.natCast_zero];first|done|rfl),.app .refl,.slice none 0 0,get_eq rfl,by rw [List.take_zero];exact OwnQ.nil⟩
 ·rintro n fr H hn0 hn hA ⟨r17,xH,qv,gN,oQ⟩
  have p2:=hA 2 rfl
  have p3:=hA 3 rfl
  have p15:=hA 15 rfl
  have p16:=hA 16 rfl
  try simp (disch:=first|exact dq|fail) only [go_sem,↓reduceIte] at p2 p3 p15 p16
  have hlt:((n:Int)<(L.ps.length:Int))=True:=eq_true (by omega)
  have xh:=xh1.trans xH
  have hNl:=lt_of_get gN
  have hq1:=oQ.one
  obtain ⟨q,eq⟩:∃ q,q=L.ps.getD n prt0:=⟨_,rfl⟩
  have hq:L.ps[n]?=some q:=by rw [eq];exact getD_some hn
  obtain ⟨a1,r1,_,ad1,ld1,i1,_,_⟩:=(hP.ext xh).at hq
  have d10:=ld1 H .refl
  have d1:∀ {T:Heap},loadP prog (H++T) 81 a1=some (.agg [r1,.int .i64 q.each,.int .i64 q.ph,.bool q.wv]):=fun {T}=>ld1 _ (.app .refl)
  have q1:=i1.one
  obtain ⟨Ha,eHa⟩:∃ Ha,Ha=H++[prB r1 q.each q.ph q.wv]:=⟨_,rfl⟩
  have xHa:Ext H Ha:=by rw [eHa];exact .app .refl
  have hla:Ha.length=H.length+1:=by rw [eHa];simp
  obtain ⟨r2,H2,e2,x2',oR⟩:=run_dupI (base:=base) (by omega) (i1.ext xHa) (hr q (List.mem_of_getElem? hq))
  have gPa:Ha[H.length]?=some (prB r1 q.each q.ph q.wv):=by rw [eHa];exact get_eq rfl
  have gP2:=x2'.get gPa
  have q2:=oR.one
  have hl2:=x2'.len
  have xH2:=xHa.trans x2'
  have gN2:=xH2.get gN
  have oQ2:=oQ.ext xH2
  obtain ⟨H3,eH3⟩:∃ H3,H3=H2.set H.length (prB r2 q.each q.ph q.wv):=⟨_,rfl⟩
  have hl3:H3.length=H2.length:=by rw [eH3,List.length_set]
  have oQ3:OwnQ (H1.length+1) H3 qv (L.ps.take n):=by rw [eH3];exact oQ2.setBox gP2
  have oR3:OwnE encI 3 (H1.length+1) H3 r2 q.rib:=by rw [eH3];exact (oR.low (by omega)).setBox gP2
  have gN3:H3[H1.length]?=some (lmB L.R L.T qv sw):=by rw [eH3,List.getElem?_set_ne (by omega)];exact gN2
  have gP3:H3[H.length]?=some (prB r2 q.each q.ph q.wv):=by rw [eH3,List.getElem?_set_self (by omega)]
  have xH13:Ext H1 H3:=by rw [eH3];exact (xH.trans xH2).set (by omega)
  have hn2:=norm_one q2
  have bsW:∀ {lit:Bool} {A:Heap},bsA prog lit A 22 1 [(0,.agg [r2,.int .i64 q.each,.int .i64 q.ph,.bool q.wv])]=some (.slice (some ⟨A.length,0,0⟩) 1 1,A++[rowE encP 81 [⟨r2,q.each,q.ph,q.wv⟩] 0]):=fun {lit A}=>by
   simp [bsA,rowOf,Fc.el22,fillA,repCells,AVal.isN,AVal.cells,splice,rowE,flat,encP,hn2]
  obtain ⟨v',h',a1',a2,a3,a4,a5,a6⟩:=(oQ3.ext (.app (t:=[rowE encP 81 [⟨r2,q.each,q.ph,q.wv⟩] 0]) .refl)).snoc (base:=base) (p:=q) (oR3.ext (.app .refl)) (by have:=xh1.len;omega) (by simp;omega) (by rw [List.length_take];omega) (by simp)
  rw [List.length_append,List.length_cons,List.length_nil,Nat.zero_add,Nat.add_sub_cancel,hl3] at a1'
  have gL3:=a6.box (i:=H1.length) (get_app gN3)
  simp only [List.length_append,List.length_cons,List.length_nil] at a3
  have hb1:base≤H1.length:=by have:=xh1.len;omega
  unfold prB at eHa gPa gP2 eH3 gP3
  have hsp:=@Nat.succ_ne_zero;repeat' (first|simp (disch:=first|exact dq|fail) only [go_sem,↓reduceIte,hsp,r17,p2,p3,p15,p16,hlt,ad1,d1,d10,← eHa,gPa,e2,gP2,← eH3,gN3,gP3,bsW,a1',gL3,hl3]|refine WP_drw ?_|refine cnd_intro (fun hsp=>?_) fun hsp=>?_)
  refine ⟨agq,by omega,(a4 _ (by omega) (xH13.trans (.app .refl))).set (Nat.le_refl _),v',rfl,?_⟩
  have:=a2.setBox (k:=lmB L.R L.T v' sw) gL3
  rwa [show L.ps.take n++[q]=L.ps.take (n+1) by rw [List.take_add_one,hq];rfl] at this
 ·rintro fr H hA ⟨r17,xH,qv,gN,oQ⟩
  have p2:=hA 2 rfl
  have p3:=hA 3 rfl
  have p15:=hA 15 rfl
  have p16:=hA 16 rfl
  try simp (disch:=first|exact dq|fail) only [go_sem,↓reduceIte] at p2 p3 p15 p16
  have hlt:((L.ps.length:Int)<(L.ps.length:Int))=False:=eq_false (by omega)
  have hq1:=oQ.one
  have g3:=xH.get g11
  have hb1:=(xh1.trans xH).len
  have hb2:=xH.len
  have hb3:h.length+1<H.length:=by omega
  have hsp:=@Nat.succ_ne_zero;repeat' (first|simp (disch:=first|exact dq|fail) only [go_sem,↓reduceIte,hsp,r17,p2,p3,p15,p16,hlt,gN,g3]|refine WP_drw ?_|refine cnd_intro (fun hsp=>?_) fun hsp=>?_)
  rw [List.take_length] at oQ
  have oSH:=oS.ext xH
  refine ⟨(xh1.trans xH).set (by omega),qv,sw,rfl,(oQ.low (by omega)).setBox g3,(oSH.low (by omega)).setBox g3⟩
end Go.AM
