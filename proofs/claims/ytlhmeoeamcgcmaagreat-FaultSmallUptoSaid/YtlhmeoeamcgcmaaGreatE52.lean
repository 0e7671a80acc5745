/-
  Contracts: a loom as the reference's.
-/
import Derived.Test.YtlhmeoeamcgcmaaGreatE44
set_option linter.unusedSimpArgs false
set_option linter.unusedVariables false
namespace Go.AM
open Go.Proofs.Tryz
attribute [-go_sem] put_ne put_same
attribute [local go_sem ↓] put_if
def OwnR (b:Nat) (H:Heap) (pv:AVal) (ps:List Prt):Prop:=∃ vs:List PrtV,Own encP 125 b H pv vs∧vs.length=ps.length∧∀ (i:Nat) x p,vs[i]?=some x→ps[i]?=some p→OwnE encI 3 b H x.v p.rib∧x.each=p.each∧x.ph=p.ph∧x.wv=p.wv
section
variable {b:Nat} {H H':Heap} {pv:AVal} {ps:List Prt}
theorem OwnR.nil:OwnR b H (.slice none 0 0) []:=⟨[],.nil,rfl,fun i x p h=>by simp at h⟩
theorem OwnR.mapH (x:OwnR b H pv ps) (f1:∀ v l,Own encP 125 b H v l→Own encP 125 b H' v l) (f2:∀ v l,OwnE encI 3 b H v l→OwnE encI 3 b H' v l):OwnR b H' pv ps:=by
 obtain ⟨vs,h1,h2,h3⟩:=x
 exact ⟨vs,f1 _ _ h1,h2,fun i x p a c=>⟨f2 _ _ (h3 i x p a c).1,(h3 i x p a c).2⟩⟩
theorem OwnR.ext (x:OwnR b H pv ps) (e:Ext H H'):OwnR b H' pv ps:=x.mapH (fun _ _ y=>y.ext e) fun _ _ y=>y.ext e
theorem OwnR.setBox {k:ABlk} {a:Nat} {c:List AVal} {t:TypeId} {ro:Bool} {u:Nat} (x:OwnR b H pv ps) (hg:H[a]?=some ⟨.cells c t false ro,u⟩):OwnR b (H.set a k) pv ps:=x.mapH (fun _ _ y=>y.setBox hg) fun _ _ y=>y.setBox hg
theorem OwnR.one (x:OwnR b H pv ps):One pv:=by obtain ⟨vs,h1,_⟩:=x;exact h1.one
theorem OwnR.low {b':Nat} (x:OwnR b H pv ps) (hb:b'≤b):OwnR b' H pv ps:=by
 obtain ⟨vs,h1,h2,h3⟩:=x
 exact ⟨vs,h1.low hb,h2,fun i x p a c=>⟨(h3 i x p a c).1.low hb,(h3 i x p a c).2⟩⟩
theorem OwnR.parts (x:OwnR b H pv ps) (hl:ps.length<2 ^ 60) (hs:∀ p ∈ ps,Small p.rib):Parts H pv ps:=by
 obtain ⟨vs,h1,h2,h3⟩:=x
 exact ⟨vs,h1.rows (by omega),h2,fun i x p a c=>⟨((h3 i x p a c).1.rows (by have:=(hs p (List.mem_of_getElem? c)).1;omega)).ints (hs p (List.mem_of_getElem? c)).2,(h3 i x p a c).2⟩⟩
theorem OwnR.keep {α:Type} {E:Enc α} {e:TypeId} (x:OwnR b H pv ps) (k:KeepO E e H H') (h1:125 ≠ e) (h2:3 ≠ e):OwnR b H' pv ps:=x.mapH (fun _ _ y=>k.own y h1) fun _ _ y=>k.ownE y h2
theorem OwnR.snoc {h:Heap} {base:Nat} {w:AVal} {p:Prt} (x:OwnR b h pv ps) (hw:OwnE encI 3 b h w p.rib) (hb:base≤b) (hbh:b≤h.length) (hl:ps.length≤1000) (hg:h[h.length-1]?=some (rowE encP 125 [⟨w,p.each,p.ph,p.wv⟩] 0)) :
  ∃ v' h',appendA prog base h 29 pv (.slice (some ⟨h.length-1,0,0⟩) 1 1)=some (v',h')∧OwnR b h' v' (ps++[p])∧h.length≤h'.length∧(∀ G,G.length≤b→Ext G h→Ext G h')∧One v'∧KeepO encP 125 h h':=by
 obtain ⟨vs,h1,h2,h3⟩:=x
 obtain ⟨v',h',a1,a2,a3,a4,a5,a6⟩:=h1.appendRX (P:=prog) (base:=base) (t:=29) (Rows.own hg rfl (by simp)) Fc.el29 encP_sc hb hbh (by simp) (by simp;omega)
 refine ⟨v',h',a1,⟨_,a2,by simp [h2],fun i y q g1 g2=>?_⟩,a3,a4,a5,a6⟩
 have kp:KeepO encP 125 h h':=a6
 by_cases hi:i<vs.length
 ·rw [List.getElem?_append_left hi] at g1
  rw [List.getElem?_append_left (by omega)] at g2
  exact ⟨kp.ownE (h3 i y q g1 g2).1 (by decide),(h3 i y q g1 g2).2⟩
 ·rw [List.getElem?_append_right (by omega)] at g1
  rw [List.getElem?_append_right (by omega)] at g2
  have e0:i-vs.length=0:=by
   have:=(List.getElem?_eq_some_iff.1 g1).1
   simp at this;omega
  rw [e0] at g1
  rw [show i-ps.length=0 by omega] at g2
  cases g1;cases g2
  exact ⟨kp.ownE hw (by decide),rfl,rfl,rfl⟩
end
abbrev rlB (R T:Int) (pv sv:AVal):ABlk:=⟨.cells [.int .i64 R,.int .i64 T,pv,sv] 32 false false,0⟩
theorem bsRS {lit:Bool} {A:Heap} {s:Sgt}:bsA prog lit A 30 1 [(0,.agg [.int .i64 s.rib,.int .i64 s.lo,.int .i64 s.hi,.bool s.bad])]=some (.slice (some ⟨A.length,0,0⟩) 1 1,A++[rowE encS 126 [s] 0]):=by
 simp [bsA,rowOf,Fc.el30,fillA,repCells,AVal.isN,AVal.cells,splice,rowE,flat,encS]
set_option maxHeartbeats 2000000 in
theorem run_theirs {base:Nat} {h:Heap} {v:AVal} {L:Lom} (hb:base≤h.length) (hL:LomAt h v L) (hpl:L.ps.length≤1000) (hsl:L.ss.length≤1000) (hr:∀ p ∈ L.ps,p.rib.length≤1000) :
  Ret prog raw base (.fn 14 [] []) [v] h (fun w H=>Ext h H∧∃ pv sv,w=lomV L.R L.T pv sv∧OwnR h.length H pv L.ps∧Own encS 126 h.length H sv L.ss):=by
 obtain ⟨pv,sv,rfl,hP,hS⟩:=hL
 have o1:=hP.one
 have o2:=hS.one
 obtain ⟨H0,eH0⟩:∃ H0,H0=h++[lmB L.R L.T pv sv]++[rlB 0 0 (.slice none 0 0) (.slice none 0 0)]:=⟨_,rfl⟩
 have xh0:Ext h H0:=by rw [eH0];exact .app (.app .refl)
 have hl0:H0.length=h.length+2:=by rw [eH0];simp
 have g0:H0[h.length]?=some (lmB L.R L.T pv sv):=by rw [eH0];exact get_app (get_eq rfl)
 have g00:H0[h.length+1]?=some (rlB 0 0 (.slice none 0 0) (.slice none 0 0)):=by rw [eH0];exact get_eq (by simp)
 have l1:∀ {a:ABlk},lenOpA prog (H0++[a]) 22 pv=some (.int .i64 (L.ps.length:Int)):=fun {a}=>(hP.ext (xh0.trans (.app .refl))).len
 have g0':∀ {a:ABlk},(H0++[a])[h.length]?=_:=fun {a}=>get_app g0
 refine ret_raw func14 rfl (by kernel_rfl) ?_
 have hsp:=@Nat.succ_ne_zero;repeat' (first|simp (disch:=first|exact dq|fail) only [go_sem,↓reduceIte,hsp,← eH0,g0,g0',l1]|refine WP_drw ?_|refine cnd_intro (fun hsp=>?_) fun hsp=>?_)
 refine WP_count [(5,5),(16,35)] 0 L.ps.length (Nat.zero_le _) (fun _ n fr h'=>fr 16=.int .i64 (n:Int)∧Ext H0 h'∧∃ qv,h'[H0.length]?=some (rlB L.R L.T qv (.slice none 0 0))∧OwnR (H0.length+1) h' qv (L.ps.take n)) ?_ ?_ ?_
 ·exact ⟨by (simp (disch:=first|exact dq|fail) only [go_sem,↓reduceIte,Int.natCast_zero];first|done|rfl),.app .refl,.slice none 0 0,get_eq rfl,by rw [List.take_zero];exact OwnR.nil⟩
 ·rintro n fr H hn0 hn hA ⟨r16,xH,qv,gN,oQ⟩
  have p1:=hA 1 rfl
  have p2:=hA 2 rfl
  have p3:=hA 3 rfl
  have p14:=hA 14 rfl
  have p15:=hA 15 rfl
  try simp (disch:=first|exact dq|fail) only [go_sem,↓reduceIte] at p1 p2 p3 p14 p15
  have hlt:((n:Int)<(L.ps.length:Int))=True:=eq_true (by omega)
  have xh:=xh0.trans xH
  have hNl:=lt_of_get gN
  have hq1:=oQ.one
  obtain ⟨q,eq⟩:∃ q,q=L.ps.getD n prt0:=⟨_,rfl⟩
  have hq:L.ps[n]?=some q:=by rw [eq];exact getD_some hn
  obtain ⟨a1,r1,_,ad1,ld1,i1,_,_⟩:=(hP.ext xh).at hq
  have d10:=ld1 H .refl
  have d1:∀ {T:Heap},loadP prog (H++T) 81 a1=some (.agg [r1,.int .i64 q.each,.int .i64 q.ph,.bool q.wv]):=fun {T}=>ld1 _ (.app .refl)
  have q1:=i1.one
  obtain ⟨Ha,eHa⟩:∃ Ha,Ha=H++[prB r1 q.each q.ph q.wv]:=⟨_,rfl⟩
  have xHa:Ext H Ha:=by rw [eHa];exact .app .refl
  have hla:Ha.length=H.length+1:=by rw [eHa];simp
  have hhl:=xh.len
  obtain ⟨r2,H2,e2,x2',oR⟩:=run_dupI (base:=base) (by omega) (i1.ext xHa) (hr q (List.mem_of_getElem? hq))
  have gPa:Ha[H.length]?=some (prB r1 q.each q.ph q.wv):=by rw [eHa];exact get_eq rfl
  have gP2:=x2'.get gPa
  have q2:=oR.one
  have hl2:=x2'.len
  have xH2:=xHa.trans x2'
  have gNa:=xHa.get gN
  have gN2:=xH2.get gN
  have oQ2:=oQ.ext xH2
  have oR2:OwnE encI 3 (H0.length+1) H2 r2 q.rib:=oR.low (by omega)
  have hn2:=norm_one q2
  have bsW:∀ {lit:Bool} {A:Heap},bsA prog lit A 29 1 [(0,.agg [r2,.int .i64 q.each,.int .i64 q.ph,.bool q.wv])]=some (.slice (some ⟨A.length,0,0⟩) 1 1,A++[rowE encP 125 [⟨r2,q.each,q.ph,q.wv⟩] 0]):=fun {lit A}=>by
   simp [bsA,rowOf,Fc.el29,fillA,repCells,AVal.isN,AVal.cells,splice,rowE,flat,encP,hn2]
  obtain ⟨v',h',a1',a2,a3,a4,a5,a6⟩:=(oQ2.ext (.app (t:=[rowE encP 125 [⟨r2,q.each,q.ph,q.wv⟩] 0]) .refl)).snoc (base:=base) (p:=q) (oR2.ext (.app .refl)) (by omega) (by simp;omega) (by rw [List.length_take];omega) (by simp)
  rw [List.length_append,List.length_cons,List.length_nil,Nat.zero_add,Nat.add_sub_cancel] at a1'
  have gL3:=a6.box (i:=H0.length) (get_app gN2)
  simp only [List.length_append,List.length_cons,List.length_nil] at a3
  unfold prB at eHa gPa gP2
  have hsp:=@Nat.succ_ne_zero;repeat' (first|simp (disch:=first|exact dq|fail) only [go_sem,↓reduceIte,hsp,r16,p1,p2,p3,p14,p15,hlt,ad1,d1,d10,← eHa,gPa,e2,gP2,gNa,gN2,bsW,a1',gL3]|refine WP_drw ?_|refine cnd_intro (fun hsp=>?_) fun hsp=>?_)
  refine ⟨agq,by omega,(a4 _ (by omega) (xH.trans (xH2.trans (.app .refl)))).set (Nat.le_refl _),v',rfl,?_⟩
  have:=a2.setBox (k:=rlB L.R L.T v' (.slice none 0 0)) gL3
  rwa [show L.ps.take n++[q]=L.ps.take (n+1) by rw [List.take_add_one,hq];rfl] at this
 ·rintro fr H hA ⟨r16,xH,qv,gN,oQ⟩
  have p1:=hA 1 rfl
  have p2:=hA 2 rfl
  have p3:=hA 3 rfl
  have p14:=hA 14 rfl
  have p15:=hA 15 rfl
  try simp (disch:=first|exact dq|fail) only [go_sem,↓reduceIte] at p1 p2 p3 p14 p15
  have hlt:((L.ps.length:Int)<(L.ps.length:Int))=False:=eq_false (by omega)
  rw [List.take_length] at oQ
  have hq1:=oQ.one
  have xh:=xh0.trans xH
  have hhl:=xh.len
  have g1:=xH.get g0
  have l2:lenOpA prog H 23 sv=some (.int .i64 (L.ss.length:Int)):=(hS.ext xh).len Fc.el23
  have hsp:=@Nat.succ_ne_zero;repeat' (first|simp (disch:=first|exact dq|fail) only [go_sem,↓reduceIte,hsp,r16,p1,p2,p3,p14,p15,hlt,g1,l2]|refine WP_drw ?_|refine cnd_intro (fun hsp=>?_) fun hsp=>?_)
  refine WP_count [(7,7),(39,49)] 0 L.ss.length (Nat.zero_le _) (fun _ n fr h'=>fr 39=.int .i64 (n:Int)∧Ext H0 h'∧∃ sw,h'[H0.length]?=some (rlB L.R L.T qv sw)∧OwnR (H0.length+1) h' qv L.ps∧Own encS 126 (H0.length+1) h' sw (L.ss.take n)) ?_ ?_ ?_
  ·exact ⟨by (simp (disch:=first|exact dq|fail) only [go_sem,↓reduceIte,Int.natCast_zero];first|done|rfl),xH,.slice none 0 0,gN,oQ,by rw [List.take_zero];exact Own.nil⟩
  ·rintro n fr2 K hn0 hn hA2 ⟨r39,xK,sw,gK,oQK,oSK⟩
   have q2:=hA2 2 rfl
   have q3:=hA2 3 rfl
   have q37:=hA2 37 rfl
   have q38:=hA2 38 rfl
   try simp (disch:=first|exact dq|fail) only [go_sem,↓reduceIte,p2,p3] at q2 q3 q37 q38
   have hlt:((n:Int)<(L.ss.length:Int))=True:=eq_true (by omega)
   have xhK:=xh0.trans xK
   have hs1:=oSK.one
   have hNl:=lt_of_get gK
   obtain ⟨s,es⟩:∃ s,s=L.ss.getD n sgt0:=⟨_,rfl⟩
   have hs:L.ss[n]?=some s:=by rw [es];exact getD_some hn
   have ad:=(hS.ext xhK).addr (P:=prog) (i:=(n:Int)) Fc.el23 Fc.ar23 (by omega) (by omega)
   rw [Int.toNat_natCast] at ad
   have d1:loadP prog K 56 (elAdr sv encS.z n 0)=some (.agg [.int .i64 s.rib,.int .i64 s.lo,.int .i64 s.hi,.bool s.bad]):=(hS.ext xhK).load (P:=prog) Fc.ty56 hs
   have d2:∀ {T:Heap},loadP prog (K++T) 56 (elAdr sv encS.z n 0)=some (.agg [.int .i64 s.rib,.int .i64 s.lo,.int .i64 s.hi,.bool s.bad]):=fun {T}=>(hS.ext (xhK.trans (.app .refl))).load (P:=prog) Fc.ty56 hs
   obtain ⟨K2,eK2⟩:∃ K2,K2=K++[⟨.cells [.int .i64 s.rib,.int .i64 s.lo,.int .i64 s.hi,.bool s.bad] 56 false false,0⟩]:=⟨_,rfl⟩
   have xK2:Ext K K2:=by rw [eK2];exact .app .refl
   have hl2:K2.length=K.length+1:=by rw [eK2];simp
   have gS2:K2[K.length]?=some ⟨.cells [.int .i64 s.rib,.int .i64 s.lo,.int .i64 s.hi,.bool s.bad] 56 false false,0⟩:=by rw [eK2];exact get_eq rfl
   have gK2:=xK2.get gK
   obtain ⟨v',h',a1',a2,a3,a4,a5,a6⟩:=(oSK.ext (xK2.trans (.app (t:=[rowE encS 126 [s] 0]) .refl))).appendRX (P:=prog) (base:=base) (t:=30) (Rows.own (E:=encS) (id:=K2.length) (ver:=0) (n:=1) (l:=[s]) (get_eq rfl) rfl (by simp)) Fc.el30 encS_sc (by have:=xh0.len;omega) (by simp;omega) (by simp) (by simp;omega)
   have bsS:∀ {lit:Bool} {A:Heap},bsA prog lit A 30 1 [(0,.agg [.int .i64 s.rib,.int .i64 s.lo,.int .i64 s.hi,.bool s.bad])]=some (.slice (some ⟨A.length,0,0⟩) 1 1,A++[rowE encS 126 [s] 0]):=fun {lit A}=>bsRS
   have kp:KeepO encS 126 (K2++[rowE encS 126 [s] 0]) h':=a6
   have gL3:=kp.box (i:=H0.length) (get_app gK2)
   have oQ3:=(oQK.ext (xK2.trans (.app (t:=[rowE encS 126 [s] 0]) .refl))).keep kp (by decide) (by decide)
   simp only [List.length_append,List.length_cons,List.length_nil] at a3
   have hsp:=@Nat.succ_ne_zero;repeat' (first|simp (disch:=first|exact dq|fail) only [go_sem,↓reduceIte,hsp,r39,q2,q3,q37,q38,hlt,ad,d1,d2,← eK2,gS2,gK2,bsS,a1',gL3]|refine WP_drw ?_|refine cnd_intro (fun hsp=>?_) fun hsp=>?_)
   refine ⟨agq,by omega,(a4 _ (by omega) (xK.trans (xK2.trans (.app .refl)))).set (Nat.le_refl _),v',rfl,oQ3.setBox gL3,?_⟩
   have:=a2.setBox (k:=rlB L.R L.T qv v') gL3
   rwa [show L.ss.take n++[s]=L.ss.take (n+1) by rw [List.take_add_one,hs];rfl] at this
  ·rintro fr2 K hA2 ⟨r39,xK,sw,gK,oQK,oSK⟩
   have q2:=hA2 2 rfl
   have q3:=hA2 3 rfl
   have q37:=hA2 37 rfl
   have q38:=hA2 38 rfl
   try simp (disch:=first|exact dq|fail) only [go_sem,↓reduceIte,p2,p3] at q2 q3 q37 q38
   have hlt:((L.ss.length:Int)<(L.ss.length:Int))=False:=eq_false (by omega)
   rw [List.take_length] at oSK
   have hs1:=oSK.one
   have g3:=xK.get g00
   have hb2:=xK.len
   have hb3:h.length+1<K.length:=by omega
   have hsp:=@Nat.succ_ne_zero;repeat' (first|simp (disch:=first|exact dq|fail) only [go_sem,↓reduceIte,hsp,r39,q2,q3,q37,q38,hlt,gK,g3]|refine WP_drw ?_|refine cnd_intro (fun hsp=>?_) fun hsp=>?_)
   exact ⟨(xh0.trans xK).set (by omega),qv,sw,rfl,(oQK.low (by omega)).setBox g3,(oSK.low (by omega)).setBox g3⟩
end Go.AM
