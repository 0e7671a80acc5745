/-
  Contracts: a table that is made.
-/
import Derived.Test.YtcemgempgbjbeaaGreatU20
import Derived.Test.YtcemgempgbjbeaaGreatU16
import Derived.Test.YtcemgempgbjbeaaGreatU15
set_option linter.unusedSimpArgs false
set_option linter.unusedVariables false
namespace Go.AM
open Go.Proofs.Tryz
attribute [-go_sem] put_ne put_same
attribute [local go_sem ↓] put_if
abbrev eyX (s:Shd) (f:Int):ABlk:=⟨.cells [.int .i64 s.1,.int .i64 s.2.1,.int .i64 s.2.2,.int .i64 f] 131 false false,0⟩
theorem encE_sc:∀ y,(encE.cells y).all AVal.scalar=true:=fun _=>rfl
theorem enc3_sc:∀ y,(enc3.cells y).all AVal.scalar=true:=fun _=>rfl
theorem snocE {b base:Nat} {A:Heap} {w:AVal} {l:List (Shd × Int)} {r:Shd × Int} (hO:Own encE 131 b A w l) (hb:base≤b) (hbh:b≤A.length) (hl:l.length≤1000000) :
  ∃ w' H,appendA prog base (A++[rowE encE 131 [r] 0]) 23 w (.slice (some ⟨A.length,0,0⟩) 1 1)=some (w',H)∧Own encE 131 b H w' (l++[r])∧A.length≤H.length∧(∀ G,G.length≤b→Ext G A→Ext G H)∧One w'∧KeepO encE 131 A H:=by
 obtain ⟨B,eB⟩:∃ B,B=A++[rowE encE 131 [r] 0]:=⟨_,rfl⟩
 have xB:Ext A B:=by rw [eB];exact .app .refl
 have lB':B.length=A.length+1:=by rw [eB];simp
 have hx:Rows encE B (.slice (some ⟨A.length,0,0⟩) 1 1) [r]:=Rows.own (by rw [eB];exact get_eq rfl) rfl (by simp)
 rw [← eB]
 obtain ⟨w',H,a1,a2,a3,a4,a5,a6⟩:=(hO.ext xB).appendRX (P:=prog) (base:=base) (t:=23) hx Fc.el23 encE_sc hb (by omega) (by simp) (by simp;omega)
 have a6:KeepO encE 131 B H:=a6
 exact ⟨w',H,a1,a2,by omega,fun G h1 h2=>a4 G h1 (h2.trans xB),a5,fun i y hi hy=>a6 i y (xB.get hi) hy⟩
theorem snoc3 {b base:Nat} {A:Heap} {w:AVal} {l:List Shd} {r:Shd} {e t:TypeId} {zs:List AVal} (ht:elS prog t=some (e,3,zs)) (hO:Own enc3 e b A w l) (hb:base≤b) (hbh:b≤A.length) (hl:l.length≤1000000) :
  ∃ w' H,appendA prog base (A++[rowE enc3 e [r] 0]) t w (.slice (some ⟨A.length,0,0⟩) 1 1)=some (w',H)∧Own enc3 e b H w' (l++[r])∧A.length≤H.length∧(∀ G,G.length≤b→Ext G A→Ext G H)∧One w'∧KeepO enc3 e A H:=by
 obtain ⟨B,eB⟩:∃ B,B=A++[rowE enc3 e [r] 0]:=⟨_,rfl⟩
 have xB:Ext A B:=by rw [eB];exact .app .refl
 have lB':B.length=A.length+1:=by rw [eB];simp
 have hx:Rows enc3 B (.slice (some ⟨A.length,0,0⟩) 1 1) [r]:=Rows.own (by rw [eB];exact get_eq rfl) rfl (by simp)
 rw [← eB]
 obtain ⟨w',H,a1,a2,a3,a4,a5,a6⟩:=(hO.ext xB).appendRX (P:=prog) (base:=base) (t:=t) hx ht enc3_sc hb (by omega) (by simp) (by simp;omega)
 have a6:KeepO enc3 e B H:=a6
 exact ⟨w',H,a1,a2,by omega,fun G h1 h2=>a4 G h1 (h2.trans xB),a5,fun i y hi hy=>a6 i y (xB.get hi) hy⟩
structure MdY (h:Heap) (id:Nat) (v:AVal) (silk:List Int) (H:Heap) (kk:Nat) (T:EyT) (ev lv pv:AVal):Prop where
 x:SpE h id v silk kk H
 r:H[h.length]?=some (tbB (.slice none 0 0) (.slice none 0 0) (.slice none 0 0))
 t:H[h.length+1]?=some (tbB ev lv pv)
 E:Own encE 131 (h.length+2) H ev T.E
 L:Own enc3 133 (h.length+2) H lv T.L
 P:Own enc3 128 (h.length+2) H pv T.P
 oE:∀ x ∈ T.E,shIn 4 x.1∧1≤x.2∧x.2≤400
 oL:∀ x ∈ T.L,shIn 3 x
 oP:∀ x ∈ T.P,shIn 20 x
theorem MdY.len {h:Heap} {id:Nat} {v:AVal} {silk:List Int} {H:Heap} {kk:Nat} {T:EyT} {ev lv pv:AVal} (m:MdY h id v silk H kk T ev lv pv):h.length+2≤H.length:=lt_of_get m.t
theorem MdY.app {h:Heap} {id:Nat} {v:AVal} {silk:List Int} {H Z:Heap} {kk:Nat} {T:EyT} {ev lv pv:AVal} (m:MdY h id v silk H kk T ev lv pv):MdY h id v silk (H++Z) kk T ev lv pv :=
 ⟨m.x.app,get_app m.r,get_app m.t,m.E.app,m.L.app,m.P.app,m.oE,m.oL,m.oP⟩
theorem MdY.step {h:Heap} {id:Nat} {v:AVal} {silk:List Int} {H:Heap} {kk k':Nat} {T:EyT} {ev lv pv:AVal} (m:MdY h id v silk H kk T ev lv pv) (hid:id<h.length):MdY h id v silk (H.set id (spB v silk k')) k' T ev lv pv :=
 ⟨m.x.step hid,by rw [List.getElem?_set_ne (by omega)];exact m.r,by rw [List.getElem?_set_ne (by omega)];exact m.t,m.E.set (by omega),m.L.set (by omega),m.P.set (by omega),m.oE,m.oL,m.oP⟩
theorem MdY.box {h:Heap} {id i:Nat} {v:AVal} {silk:List Int} {H:Heap} {kk:Nat} {T:EyT} {ev lv pv:AVal} {c:List AVal} {e:TypeId} {u:Nat} {ro:Bool} (m:MdY h id v silk H kk T ev lv pv) (hi:h.length+2≤i) (hg:H[i]?=some ⟨.cells c e false ro,u⟩) {k:ABlk}:MdY h id v silk (H.set i k) kk T ev lv pv :=
 ⟨Ext.set m.x (by rw [List.length_set];omega),by rw [List.getElem?_set_ne (by omega)];exact m.r,by rw [List.getElem?_set_ne (by omega)];exact m.t,m.E.setBox hg,m.L.setBox hg,m.P.setBox hg,m.oE,m.oL,m.oP⟩
theorem stT23a {base:Nat} {l:List Oper} {s:St} {Q:AExit→St→Prop}:WP prog raw base (.region 5 l.toArray false) s Q=WPS prog raw base (.region 5 l.toArray false) s Q:=WP_stop
attribute [local go_sem ↓ 3000] stT23a
theorem stT23b {base:Nat} {l:List Oper} {s:St} {Q:AExit→St→Prop}:WP prog raw base (.region 12 l.toArray true) s Q=WPS prog raw base (.region 12 l.toArray true) s Q:=WP_stop
attribute [local go_sem ↓ 3000] stT23b
theorem stT23c {base:Nat} {l:List Oper} {s:St} {Q:AExit→St→Prop}:WP prog raw base (.region 17 l.toArray true) s Q=WPS prog raw base (.region 17 l.toArray true) s Q:=WP_stop
attribute [local go_sem ↓ 3000] stT23c
set_option maxHeartbeats 4000000 in
theorem run_Made6 {base id k0:Nat} {h:Heap} {v:AVal} {silk:List Int} (hb:base≤h.length) (hS:SpAt h id v silk k0) (hk:k0≤100) :
  Ret prog raw base (.fn 7 [] []) [.ptr (some ⟨id,0,0⟩),.int .i64 4,.int .i64 3,.int .i64 6] h (fun w H=>∃ T k',SpE h id v silk k' H∧k'≤200∧TblAt H w T∧TOk T∧T.P.length≤6):=by
 have hid:=lt_of_get hS.1
 obtain ⟨G,eG⟩:∃ G,G=h++[tbB (.slice none 0 0) (.slice none 0 0) (.slice none 0 0)]++[tbB (.slice none 0 0) (.slice none 0 0) (.slice none 0 0)]:=⟨_,rfl⟩
 have m0:MdY h id v silk G k0 ⟨[],[],[]⟩ (.slice none 0 0) (.slice none 0 0) (.slice none 0 0):=by
  rw [eG]
  exact ⟨(SpE.refl hS).app.app,get_app (get_eq rfl),get_eq (by simp),Own.nil,Own.nil,Own.nil,by simp,by simp,by simp⟩
 have u1:=up_bd (silk:=silk) (k:=k0) (n:=4-1) (by omega)
 obtain ⟨N,eN⟩:=Int.eq_ofNat_of_zero_le (show 0≤1+up silk k0 (4-1) by omega)
 have f1:=fun base=>run_from (base:=base) (lo:=1) (hi:=4) (m0.x.at hS) (by omega) (by omega) (by omega)
 rw [eN] at f1
 obtain ⟨G1,eG1⟩:∃ G1,G1=G.set id (spB v silk (k0+1)):=⟨_,rfl⟩
 rw [← eG1] at f1
 have m1:MdY h id v silk G1 (k0+1) ⟨[],[],[]⟩ (.slice none 0 0) (.slice none 0 0) (.slice none 0 0):=by rw [eG1];exact m0.step hid
 unfold tbB at eG
 refine ret_raw func7 rfl (by kernel_rfl) ?_
 have hsp:=@Nat.succ_ne_zero;repeat' (first|simp (disch:=first|exact dqd|fail) only [go_sem,↓reduceIte,hsp,← eG,f1]|refine WP_drw ?_|refine cnd_intro (fun hsp=>?_) fun hsp=>?_)
 refine WP_count [(10,10),(15,48)] 0 N (Nat.zero_le _) (fun _ i fr h'=>fr 15=.int .i64 (i:Int)∧∃ E ev kk,kk≤k0+1+6 * i∧MdY h id v silk h' kk ⟨E,[],[]⟩ ev (.slice none 0 0) (.slice none 0 0)∧E.length=i) ?_ ?_ ?_
 ·exact ⟨by (simp (disch:=first|exact dqd|fail) only [go_sem,↓reduceIte,Int.natCast_zero];first|done|rfl),[],.slice none 0 0,k0+1,by omega,m1,rfl⟩
 ·rintro i fr H hi0 hi hAg ⟨p15,E,ev,kk,hkk,m,hEl⟩
  have p0:=hAg 0 rfl
  have p2:=hAg 2 rfl
  have p3:=hAg 3 rfl
  have p8:=hAg 8 rfl
  have p9:=hAg 9 rfl
  have p14:=hAg 14 rfl
  try simp (disch:=first|exact dqd|fail) only [go_sem,↓reduceIte] at p0 p2 p3 p8 p9 p14
  have hlt:((i:Int)<(N:Int))=True:=eq_true (by omega)
  have oev:=m.E.one
  have e1:=fun base=>run_shade (base:=base) (n:=4) (m.x.at hS) (by omega) (by omega)
  obtain ⟨s,es⟩:∃ s,s=shU silk kk 4:=⟨_,rfl⟩
  have hs:shIn 4 s:=by rw [es];exact shU_in (by omega)
  rw [← es] at e1
  obtain ⟨H1,eH1⟩:∃ H1,H1=H.set id (spB v silk (kk+1+1+1)):=⟨_,rfl⟩
  rw [← eH1] at e1
  have m2:MdY h id v silk H1 (kk+1+1+1) ⟨E,[],[]⟩ ev (.slice none 0 0) (.slice none 0 0):=by rw [eH1];exact m.step hid
  have l1:=m2.len
  obtain ⟨H2,eH2⟩:∃ H2,H2=H1++[eyX s 0]:=⟨_,rfl⟩
  have m3:MdY h id v silk H2 (kk+1+1+1) ⟨E,[],[]⟩ ev (.slice none 0 0) (.slice none 0 0):=by rw [eH2];exact m2.app
  have gx:H2[H1.length]?=some (eyX s 0):=by rw [eH2];exact get_eq rfl
  have l2:H2.length=H1.length+1:=by rw [eH2];simp
  have l0:H1.length=H.length:=by rw [eH1,List.length_set]
  unfold eyX at eH2 gx
  have hsp:=@Nat.succ_ne_zero;repeat' (first|simp (disch:=first|exact dqd|fail) only [go_sem,↓reduceIte,hsp,p0,p2,p3,p8,p9,p14,p15,hlt,e1,← eH2]|refine WP_drw ?_|refine cnd_intro (fun hsp=>?_) fun hsp=>?_)
  refine WPS_restF fun Z eZ=>?_
  rw [← WP_seq]
  have kZ0:=congrFun eZ 0
  have kZ2:=congrFun eZ 2
  have kZ3:=congrFun eZ 3
  have kZ8:=congrFun eZ 8
  have kZ9:=congrFun eZ 9
  have kZ10:=congrFun eZ 10
  have kZ14:=congrFun eZ 14
  have kZ15:=congrFun eZ 15
  try simp (disch:=first|exact dqd|fail) only [go_sem,↓reduceIte,p0,p2,p3,p8,p9,p14,p15] at kZ0 kZ2 kZ3 kZ8 kZ9 kZ10 kZ14 kZ15
  have aZ:Agree [(10,10),(15,48)] Z fr:=by rw [eZ];exact agq
  clear eZ
  refine WP_meet (fun fr h'=>Agree [(20,25)] fr Z∧∃ s' k',shIn 4 s'∧k'≤kk+5∧MdY h id v silk h' k' ⟨E,[],[]⟩ ev (.slice none 0 0) (.slice none 0 0)∧h'[H1.length]?=some (eyX s' 0)∧h'.length=H1.length+1) ?_ ?_
  ·rw [WP_seq,WP_region]
   have e2:=fun base=>run_once (base:=base) (n:=3) (m3.x.at hS) (by omega) (by omega)
   obtain ⟨H3,eH3⟩:∃ H3,H3=H2.set id (spB v silk (kk+1+1+1+1)):=⟨_,rfl⟩
   rw [← eH3] at e2
   have m4:MdY h id v silk H3 (kk+1+1+1+1) ⟨E,[],[]⟩ ev (.slice none 0 0) (.slice none 0 0):=by rw [eH3];exact m3.step hid
   have gx3:H3[H1.length]?=some (eyX s 0):=by rw [eH3,List.getElem?_set_ne (by omega)];exact gx
   have l3:H3.length=H1.length+1:=by rw [eH3,List.length_set,l2]
   rcases Bool.eq_false_or_eq_true (decide (up silk (kk+1+1+1) (3-1)=0)) with c|c
   ·rw [c] at e2
    have e3:=fun base=>run_upto (base:=base) (n:=2) (m4.x.at hS) (by omega) (by omega)
    have ub:=up_bd (silk:=silk) (k:=kk+1+1+1+1) (n:=2) (by omega)
    obtain ⟨H4,eH4⟩:∃ H4,H4=H3.set id (spB v silk (kk+1+1+1+1+1)):=⟨_,rfl⟩
    rw [← eH4] at e3
    have m5:MdY h id v silk H4 (kk+1+1+1+1+1) ⟨E,[],[]⟩ ev (.slice none 0 0) (.slice none 0 0):=by rw [eH4];exact m4.step hid
    have gx4:H4[H1.length]?=some (eyX s 0):=by rw [eH4,List.getElem?_set_ne (by omega)];exact gx3
    have l4:H4.length=H1.length+1:=by rw [eH4,List.length_set,l3]
    unfold eyX at gx4
    obtain ⟨u,eu⟩:∃ u,u=up silk (kk+1+1+1+1) 2:=⟨_,rfl⟩
    rw [← eu] at e3 ub
    have hu:u=0 ∨ u=1 ∨ u=2:=by omega
    obtain ⟨h1,h2,h3⟩:=hs
    rcases hu with hu|hu|hu
    ·rw [hu] at e3
     have hsp:=@Nat.succ_ne_zero;repeat' (first|simp (disch:=first|exact dqd|fail) only [go_sem,↓reduceIte,hsp,kZ0,kZ2,kZ3,kZ8,kZ9,kZ10,kZ14,kZ15,e2,e3,gx4]|refine WP_drw ?_|refine cnd_intro (fun hsp=>?_) fun hsp=>?_)
     exact ⟨agq,(0,s.2.1,s.2.2),_,⟨by simp only;omega,h2,h3⟩,by omega,m5.box (by omega) gx4,rfl,by omega⟩
    ·rw [hu] at e3
     have hsp:=@Nat.succ_ne_zero;repeat' (first|simp (disch:=first|exact dqd|fail) only [go_sem,↓reduceIte,hsp,kZ0,kZ2,kZ3,kZ8,kZ9,kZ10,kZ14,kZ15,e2,e3,gx4]|refine WP_drw ?_|refine cnd_intro (fun hsp=>?_) fun hsp=>?_)
     exact ⟨agq,(s.1,0,s.2.2),_,⟨h1,by simp only;omega,h3⟩,by omega,m5.box (by omega) gx4,rfl,by omega⟩
    ·rw [hu] at e3
     have hsp:=@Nat.succ_ne_zero;repeat' (first|simp (disch:=first|exact dqd|fail) only [go_sem,↓reduceIte,hsp,kZ0,kZ2,kZ3,kZ8,kZ9,kZ10,kZ14,kZ15,e2,e3,gx4]|refine WP_drw ?_|refine cnd_intro (fun hsp=>?_) fun hsp=>?_)
     exact ⟨agq,(s.1,s.2.1,0),_,⟨h1,h2,by simp only;omega⟩,by omega,m5.box (by omega) gx4,rfl,by omega⟩
   ·rw [c] at e2
    have hsp:=@Nat.succ_ne_zero;repeat' (first|simp (disch:=first|exact dqd|fail) only [go_sem,↓reduceIte,hsp,kZ0,kZ2,kZ3,kZ8,kZ9,kZ10,kZ14,kZ15,e2]|refine WP_drw ?_|refine cnd_intro (fun hsp=>?_) fun hsp=>?_)
    exact ⟨agq,s,_,hs,by omega,m4,gx3,l3⟩
  ·rintro fr2 H5 ⟨hA2,s',k',hs',hk',m5,gx5,l5⟩
   have y0:=hA2 0 rfl
   have y2:=hA2 2 rfl
   have y3:=hA2 3 rfl
   have y8:=hA2 8 rfl
   have y9:=hA2 9 rfl
   have y10:=hA2 10 rfl
   have y14:=hA2 14 rfl
   have y15:=hA2 15 rfl
   try simp (disch:=first|exact dqd|fail) only [go_sem,↓reduceIte,kZ0,kZ2,kZ3,kZ8,kZ9,kZ10,kZ14,kZ15] at y0 y2 y3 y8 y9 y10 y14 y15
   obtain ⟨h1,h2,h3⟩:=hs'
   obtain ⟨sm,esm⟩:∃ sm,sm=3 * (s'.1+s'.2.1+s'.2.2):=⟨_,rfl⟩
   have e4:=fun base=>run_upto (base:=base) (n:=3 * (s'.1+s'.2.1+s'.2.2)) (m5.x.at hS) (by omega) (by omega)
   have ub:=up_bd (silk:=silk) (k:=k') (n:=3 * (s'.1+s'.2.1+s'.2.2)) (by omega)
   obtain ⟨f,ef⟩:∃ f,f=up silk k' (3 * (s'.1+s'.2.1+s'.2.2)):=⟨_,rfl⟩
   obtain ⟨H6,eH6⟩:∃ H6,H6=H5.set id (spB v silk (k'+1)):=⟨_,rfl⟩
   rw [← ef] at e4 ub
   rw [← eH6] at e4
   have m6:MdY h id v silk H6 (k'+1) ⟨E,[],[]⟩ ev (.slice none 0 0) (.slice none 0 0):=by rw [eH6];exact m5.step hid
   have gx6:H6[H1.length]?=some (eyX s' 0):=by rw [eH6,List.getElem?_set_ne (by omega)];exact gx5
   have l6:H6.length=H1.length+1:=by rw [eH6,List.length_set,l5]
   obtain ⟨H7,eH7⟩:∃ H7,H7=H6.set H1.length (eyX s' (1+f)):=⟨_,rfl⟩
   unfold eyX at gx5 gx6
   have m7:MdY h id v silk H7 (k'+1) ⟨E,[],[]⟩ ev (.slice none 0 0) (.slice none 0 0):=by rw [eH7];exact m6.box (by omega) gx6
   have gx7:H7[H1.length]?=some (eyX s' (1+f)):=by rw [eH7,List.getElem?_set_self (by omega)]
   have l7:H7.length=H1.length+1:=by rw [eH7,List.length_set,l6]
   have gt7:=m7.t
   have gt8:(H7++[rowE encE 131 [(s',1+f)] 0])[h.length+1]?=some (tbB ev (.slice none 0 0) (.slice none 0 0)):=get_app gt7
   obtain ⟨w',H8,ea,oE8,l8,eE8,oneE,kE⟩:=snocE (base:=base) (r:=(s',1+f)) m7.E (by omega) (by omega) (by show E.length≤_;omega)
   have t8:=kE.box gt7
   have r8:=kE.box m7.r
   have bsw:∀ {lit:Bool},bsA prog lit H7 23 1 [(0,.agg [.int .i64 s'.1,.int .i64 s'.2.1,.int .i64 s'.2.2,.int .i64 (1+f)])]=some (.slice (some ⟨H7.length,0,0⟩) 1 1,H7++[rowE encE 131 [(s',1+f)] 0]):=fun {lit}=>by
    simp [bsA,rowOf,Fc.el23,fillA,repCells,AVal.isN,AVal.cells,splice,rowE,flat,encE]
   unfold eyX at eH7 gx7
   unfold tbB at gt7 gt8
   have hsp:=@Nat.succ_ne_zero;repeat' (first|simp (disch:=first|exact dqd|fail) only [go_sem,↓reduceIte,hsp,y0,y2,y3,y8,y9,y10,y14,y15,gx5,e4,gx6,← eH7,gt7,gx7,bsw,ea,t8]|refine WP_drw ?_|refine cnd_intro (fun hsp=>?_) fun hsp=>?_)
   refine ⟨agq,by omega,E++[(s',1+f)],w',k'+1,by omega,⟨Ext.set (eE8 _ (by rw [List.length_set];omega) m7.x) (by rw [List.length_set];omega),by first|exact r8|(rw [List.getElem?_set_ne (by omega)];exact r8),by first|rfl|rw [List.getElem?_set_self (lt_of_get t8)],oE8.setBox t8,Own.nil,Own.nil,fun x hx=>?_,by simp,by simp⟩,by simp;omega⟩
   rcases List.mem_append.1 hx with hx|hx
   ·exact m7.oE x hx
   ·rw [List.mem_singleton] at hx
    rw [hx]
    exact ⟨⟨h1,h2,h3⟩,by simp only;omega,by simp only;omega⟩
 ·rintro fr H hAg ⟨p15,E,ev,kk,hkk,m,hEl⟩
  have p0:=hAg 0 rfl
  have p2:=hAg 2 rfl
  have p3:=hAg 3 rfl
  have p8:=hAg 8 rfl
  have p9:=hAg 9 rfl
  have p14:=hAg 14 rfl
  try simp (disch:=first|exact dqd|fail) only [go_sem,↓reduceIte] at p0 p2 p3 p8 p9 p14
  have hlt:((N:Int)<(N:Int))=False:=eq_false (by omega)
  have ub:=up_bd (silk:=silk) (k:=kk) (n:=3-1) (by omega)
  obtain ⟨M,eM⟩:=Int.eq_ofNat_of_zero_le (show 0≤1+up silk kk (3-1) by omega)
  have f2:=fun base=>run_from (base:=base) (lo:=1) (hi:=3) (m.x.at hS) (by omega) (by omega) (by omega)
  rw [eM] at f2
  obtain ⟨H1,eH1⟩:∃ H1,H1=H.set id (spB v silk (kk+1)):=⟨_,rfl⟩
  rw [← eH1] at f2
  have m1:MdY h id v silk H1 (kk+1) ⟨E,[],[]⟩ ev (.slice none 0 0) (.slice none 0 0):=by rw [eH1];exact m.step hid
  have hsp:=@Nat.succ_ne_zero;repeat' (first|simp (disch:=first|exact dqd|fail) only [go_sem,↓reduceIte,hsp,p0,p2,p3,p8,p9,p14,p15,hlt,f2]|refine WP_drw ?_|refine cnd_intro (fun hsp=>?_) fun hsp=>?_)
  refine WP_count [(52,61)] 0 M (Nat.zero_le _) (fun _ i fr h'=>fr 52=.int .i64 (i:Int)∧∃ L lv k2,k2≤kk+1+3 * i∧MdY h id v silk h' k2 ⟨E,L,[]⟩ ev lv (.slice none 0 0)∧L.length=i) ?_ ?_ ?_
  ·exact ⟨by (simp (disch:=first|exact dqd|fail) only [go_sem,↓reduceIte,Int.natCast_zero];first|done|rfl),[],.slice none 0 0,kk+1,by omega,m1,rfl⟩
  ·rintro i fr2 K hi0 hi hB ⟨d52,L,lv,k2,hk2,m2,hLl⟩
   have d0:=hB 0 rfl
   have d3:=hB 3 rfl
   have d8:=hB 8 rfl
   have d9:=hB 9 rfl
   have d51:=hB 51 rfl
   try simp (disch:=first|exact dqd|fail) only [go_sem,↓reduceIte,p0,p3,p8,p9] at d0 d3 d8 d9 d51
   have hlt2:((i:Int)<(M:Int))=True:=eq_true (by omega)
   have olv:=m2.L.one
   have oev:=m2.E.one
   have e1:=fun base=>run_shade (base:=base) (n:=3) (m2.x.at hS) (by omega) (by omega)
   obtain ⟨s,es⟩:∃ s,s=shU silk k2 3:=⟨_,rfl⟩
   have hs:shIn 3 s:=by rw [es];exact shU_in (by omega)
   rw [← es] at e1
   obtain ⟨K1,eK1⟩:∃ K1,K1=K.set id (spB v silk (k2+1+1+1)):=⟨_,rfl⟩
   rw [← eK1] at e1
   have m3:MdY h id v silk K1 (k2+1+1+1) ⟨E,L,[]⟩ ev lv (.slice none 0 0):=by rw [eK1];exact m2.step hid
   have l1:=m3.len
   obtain ⟨w',K2,ea,oL2,l2,eL2,oneL,kL⟩:=snoc3 (base:=base) (t:=24) (r:=s) Fc.el24 m3.L (by omega) (by omega) (by show L.length≤_;omega)
   have t2:=kL.box m3.t
   have r2:=kL.box m3.r
   have bsw:∀ {lit:Bool},bsA prog lit K1 24 1 [(0,.agg [.int .i64 s.1,.int .i64 s.2.1,.int .i64 s.2.2])]=some (.slice (some ⟨K1.length,0,0⟩) 1 1,K1++[rowE enc3 133 [s] 0]):=fun {lit}=>by
    simp [bsA,rowOf,Fc.el24,fillA,repCells,AVal.isN,AVal.cells,splice,rowE,flat,enc3]
   have gt:=m2.t
   have gt3:=m3.t
   unfold tbB at gt gt3
   have hlow:refsLow K.length lv:=m2.L.low_refs
   have hsp:=@Nat.succ_ne_zero;repeat' (first|simp (disch:=first|exact dqd|fail) only [go_sem,↓reduceIte,hsp,d0,d3,d8,d9,d51,d52,p0,p2,p3,p8,p9,p14,p15,hlt2]|refine WP_drw ?_|refine cnd_intro (fun hsp=>?_) fun hsp=>?_)
   refine WPS_go ?_
   refine WP_wild [⟨1,24,54,⟨h.length+1,0,1⟩,lv,5⟩] (by kernel_rfl) (by kernel_rfl) (by kernel_rfl) ⟨hlow,trivial⟩ fun KK hK=>?_
   iterate 8
    rw [TRS_cons]
    refine ⟨by first|(simp (disch:=first|exact dqd|fail) only [go_sem,↓reduceIte,d0,d3,d8,d9,d51,d52,p0,p2,p3,p8,p9,p14,p15,gt,e1,gt3,bsw,ea,t2,ldsQ_cons,ldsQ_nil,grdQ_cons,grdQ_nil,if_true,Nat.reduceLeDiff];done)|exact trivial,?_⟩
    simp (disch:=first|exact dqd|fail) only [go_sem,↓reduceIte,d0,d3,d8,d9,d51,d52,p0,p2,p3,p8,p9,p14,p15,gt,e1,gt3,bsw,ea,t2]
   rw [TRS_nil]
   refine ⟨by first|(simp (disch:=first|exact dqd|fail) only [go_sem,↓reduceIte,d0,d3,d8,d9,d51,d52,p0,p2,p3,p8,p9,p14,p15,gt,e1,gt3,bsw,ea,t2,ldsQ_cons,ldsQ_nil,grdQ_cons,grdQ_nil,if_true,Nat.reduceLeDiff];done)|exact trivial,?_⟩
   subst hK
   have hsp:=@Nat.succ_ne_zero;repeat' (first|simp (disch:=first|exact dqd|fail) only [go_sem,↓reduceIte,hsp,d0,d3,d8,d9,d51,d52,p0,p2,p3,p8,p9,p14,p15]|refine WP_drw ?_|refine cnd_intro (fun hsp=>?_) fun hsp=>?_)
   refine ⟨agq,by omega,L++[s],w',k2+1+1+1,by omega,⟨Ext.set (eL2 _ (by rw [List.length_set];omega) m3.x) (by rw [List.length_set];omega),by first|exact r2|(rw [List.getElem?_set_ne (by omega)];exact r2),by first|rfl|rw [List.getElem?_set_self (lt_of_get t2)],(kL.own m3.E (by decide)).setBox t2,oL2.setBox t2,Own.nil,m3.oE,fun x hx=>?_,by simp⟩,by simp;omega⟩
   rcases List.mem_append.1 hx with hx|hx
   ·exact m3.oL x hx
   ·rw [List.mem_singleton] at hx
    rw [hx];exact hs
  ·rintro fr2 K hB ⟨d52,L,lv,k2,hk2,m2,hLl⟩
   have d0:=hB 0 rfl
   have d3:=hB 3 rfl
   have d8:=hB 8 rfl
   have d9:=hB 9 rfl
   have d51:=hB 51 rfl
   try simp (disch:=first|exact dqd|fail) only [go_sem,↓reduceIte,p0,p3,p8,p9] at d0 d3 d8 d9 d51
   have hlt2:((M:Int)<(M:Int))=False:=eq_false (by omega)
   have um:=up_bd (silk:=silk) (k:=k2) (n:=7-2) (by omega)
   have f3:=fun base=>run_from (base:=base) (lo:=2) (hi:=7) (m2.x.at hS) (by omega) (by omega) (by omega)
   obtain ⟨z,ez⟩:∃ z,z=2+up silk k2 (7-2):=⟨_,rfl⟩
   rw [← ez] at f3
   obtain ⟨K1,eK1⟩:∃ K1,K1=K.set id (spB v silk (k2+1)):=⟨_,rfl⟩
   rw [← eK1] at f3
   have m3:MdY h id v silk K1 (k2+1) ⟨E,L,[]⟩ ev lv (.slice none 0 0):=by rw [eK1];exact m2.step hid
   have un:=up_bd (silk:=silk) (k:=k2+1) (n:=6) (by omega)
   have f4:=fun base=>run_upto (base:=base) (n:=6) (m3.x.at hS) (by omega) (by omega)
   obtain ⟨Q,eQ⟩:=Int.eq_ofNat_of_zero_le un.1
   rw [eQ] at f4
   obtain ⟨K2,eK2⟩:∃ K2,K2=K1.set id (spB v silk (k2+1+1)):=⟨_,rfl⟩
   rw [← eK2] at f4
   have m4:MdY h id v silk K2 (k2+1+1) ⟨E,L,[]⟩ ev lv (.slice none 0 0):=by rw [eK2];exact m3.step hid
   have hsp:=@Nat.succ_ne_zero;repeat' (first|simp (disch:=first|exact dqd|fail) only [go_sem,↓reduceIte,hsp,d0,d3,d8,d9,d51,d52,p0,p2,p3,p8,p9,p14,p15,hlt2,f3,f4]|refine WP_drw ?_|refine cnd_intro (fun hsp=>?_) fun hsp=>?_)
   refine WP_count [(67,77)] 0 Q (Nat.zero_le _) (fun _ i fr h'=>fr 67=.int .i64 (i:Int)∧∃ P pv k3,k3≤k2+2+3 * i∧MdY h id v silk h' k3 ⟨E,L,P⟩ ev lv pv∧P.length=i) ?_ ?_ ?_
   ·exact ⟨by (simp (disch:=first|exact dqd|fail) only [go_sem,↓reduceIte,Int.natCast_zero];first|done|rfl),[],.slice none 0 0,k2+1+1,by omega,m4,rfl⟩
   ·rintro i fr3 J hi0 hi hC ⟨c67,P,pv,k3,hk3,m5,hPl⟩
    have c0:=hC 0 rfl
    have c8:=hC 8 rfl
    have c9:=hC 9 rfl
    have c11:=hC 11 rfl
    have c66:=hC 66 rfl
    try simp (disch:=first|exact dqd|fail) only [go_sem,↓reduceIte,d0,d8,d9] at c0 c8 c9 c11 c66
    have hlt3:((i:Int)<(Q:Int))=True:=eq_true (by omega)
    have opv:=m5.P.one
    have olv:=m5.L.one
    have oev:=m5.E.one
    have e1:=fun base=>run_shade (base:=base) (n:=z) (m5.x.at hS) (by omega) (by omega)
    obtain ⟨s,es⟩:∃ s,s=shU silk k3 z:=⟨_,rfl⟩
    have hs:shIn z s:=by rw [es];exact shU_in (by omega)
    rw [← es] at e1
    obtain ⟨J1,eJ1⟩:∃ J1,J1=J.set id (spB v silk (k3+1+1+1)):=⟨_,rfl⟩
    rw [← eJ1] at e1
    have m6:MdY h id v silk J1 (k3+1+1+1) ⟨E,L,P⟩ ev lv pv:=by rw [eJ1];exact m5.step hid
    have l1:=m6.len
    obtain ⟨w',J2,ea,oL2,l2,eL2,oneL,kL⟩:=snoc3 (base:=base) (t:=25) (r:=s) Fc.el25 m6.P (by omega) (by omega) (by show P.length≤_;omega)
    have t2:=kL.box m6.t
    have r2:=kL.box m6.r
    have bsw:∀ {lit:Bool},bsA prog lit J1 25 1 [(0,.agg [.int .i64 s.1,.int .i64 s.2.1,.int .i64 s.2.2])]=some (.slice (some ⟨J1.length,0,0⟩) 1 1,J1++[rowE enc3 128 [s] 0]):=fun {lit}=>by
     simp [bsA,rowOf,Fc.el25,fillA,repCells,AVal.isN,AVal.cells,splice,rowE,flat,enc3]
    have gt:=m5.t
    have gt3:=m6.t
    unfold tbB at gt gt3
    have hlow:refsLow J.length pv:=m5.P.low_refs
    have hsp:=@Nat.succ_ne_zero;repeat' (first|simp (disch:=first|exact dqd|fail) only [go_sem,↓reduceIte,hsp,c0,c8,c9,c11,c66,c67,d0,d3,d8,d9,d51,d52,p0,p2,p3,p8,p9,p14,p15,hlt3]|refine WP_drw ?_|refine cnd_intro (fun hsp=>?_) fun hsp=>?_)
    refine WPS_go ?_
    refine WP_wild [⟨1,25,69,⟨h.length+1,0,2⟩,pv,6⟩] (by kernel_rfl) (by kernel_rfl) (by kernel_rfl) ⟨hlow,trivial⟩ fun KK hK=>?_
    iterate 9
     rw [TRS_cons]
     refine ⟨by first|(simp (disch:=first|exact dqd|fail) only [go_sem,↓reduceIte,c0,c8,c9,c11,c66,c67,d0,d3,d8,d9,d51,d52,p0,p2,p3,p8,p9,p14,p15,gt,e1,gt3,bsw,ea,t2,ldsQ_cons,ldsQ_nil,grdQ_cons,grdQ_nil,if_true,Nat.reduceLeDiff];done)|exact trivial,?_⟩
     simp (disch:=first|exact dqd|fail) only [go_sem,↓reduceIte,c0,c8,c9,c11,c66,c67,d0,d3,d8,d9,d51,d52,p0,p2,p3,p8,p9,p14,p15,gt,e1,gt3,bsw,ea,t2]
    rw [TRS_nil]
    refine ⟨by first|(simp (disch:=first|exact dqd|fail) only [go_sem,↓reduceIte,c0,c8,c9,c11,c66,c67,d0,d3,d8,d9,d51,d52,p0,p2,p3,p8,p9,p14,p15,gt,e1,gt3,bsw,ea,t2,ldsQ_cons,ldsQ_nil,grdQ_cons,grdQ_nil,if_true,Nat.reduceLeDiff];done)|exact trivial,?_⟩
    subst hK
    have hsp:=@Nat.succ_ne_zero;repeat' (first|simp (disch:=first|exact dqd|fail) only [go_sem,↓reduceIte,hsp,c0,c8,c9,c11,c66,c67,d0,d3,d8,d9,d51,d52,p0,p2,p3,p8,p9,p14,p15]|refine WP_drw ?_|refine cnd_intro (fun hsp=>?_) fun hsp=>?_)
    refine ⟨agq,by omega,P++[s],w',k3+1+1+1,by omega,⟨Ext.set (eL2 _ (by rw [List.length_set];omega) m6.x) (by rw [List.length_set];omega),by first|exact r2|(rw [List.getElem?_set_ne (by omega)];exact r2),by first|rfl|rw [List.getElem?_set_self (lt_of_get t2)],(kL.own m6.E (by decide)).setBox t2,(kL.own m6.L (by decide)).setBox t2,oL2.setBox t2,m6.oE,m6.oL,fun x hx=>?_⟩,by simp;omega⟩
    rcases List.mem_append.1 hx with hx|hx
    ·exact m6.oP x hx
    ·rw [List.mem_singleton] at hx
     rw [hx]
     obtain ⟨h1,h2,h3⟩:=hs
     exact ⟨by omega,by omega,by omega⟩
   ·rintro fr3 J hC ⟨c67,P,pv,k3,hk3,m5,hPl⟩
    have c0:=hC 0 rfl
    have c8:=hC 8 rfl
    have c9:=hC 9 rfl
    have c11:=hC 11 rfl
    have c66:=hC 66 rfl
    try simp (disch:=first|exact dqd|fail) only [go_sem,↓reduceIte,d0,d8,d9] at c0 c8 c9 c11 c66
    have hlt3:((Q:Int)<(Q:Int))=False:=eq_false (by omega)
    have opv:=m5.P.one
    have olv:=m5.L.one
    have oev:=m5.E.one
    have gt:=m5.t
    have gr:=m5.r
    have lr:=lt_of_get gr
    unfold tbB at gt gr
    have hsp:=@Nat.succ_ne_zero;repeat' (first|simp (disch:=first|exact dqd|fail) only [go_sem,↓reduceIte,hsp,c0,c8,c9,c11,c66,c67,d0,d3,d8,d9,d51,d52,p0,p2,p3,p8,p9,p14,p15,hlt3,gt,gr]|refine WP_drw ?_|refine cnd_intro (fun hsp=>?_) fun hsp=>?_)
    refine ⟨⟨E,L,P⟩,k3,Ext.set m5.x (by rw [List.length_set];exact Nat.le_refl _),by omega,⟨ev,lv,pv,rfl,(m5.E.set (by omega)).rows (by show E.length<_;omega),(m5.L.set (by omega)).rows (by show L.length<_;omega),(m5.P.set (by omega)).rows (by show P.length<_;omega)⟩,⟨by show 1≤E.length∧E.length≤6;omega,by show 1≤L.length∧L.length≤4;omega,by show P.length≤9;omega,m5.oE,m5.oL,m5.oP⟩,by show P.length≤6;omega⟩
end Go.AM
namespace Go.AM
theorem unL_cong {bad bad':Nat→Bool} {j:Bool} {lg:Int}:∀ (n u:Nat) (o:List Int) (f:Int),(∀ y,u≤y→y<u+n→bad y=bad' y)→unL bad j lg n u o f=unL bad' j lg n u o f
 | 0,u,o,f,h=>rfl
 | n+1,u,o,f,h=>by
  have e:unS bad j u o f=unS bad' j u o f:=by unfold unS;rw [h u (Nat.le_refl _) (by omega)]
  unfold unL
  rw [e]
  split
  ·exact unL_cong n (u+1) _ _ fun y h1 h2=>h y (by omega) (by omega)
  ·rfl
theorem unL_long {bad:Nat→Bool} {j:Bool} {lg:Int} {n u:Nat} {o:List Int} {f:Int} (h:lg≤((unL bad j lg n u o f).1.length:Int)):∀ k,unL bad j lg (n+k) u o f=unL bad j lg n u o f
 | 0=>rfl
 | k+1=>by
  have ih:=unL_long h k
  rw [← Nat.add_assoc,unL_more _ _ _ _ (by rw [ih];exact h),ih]
def joinR (a b:Rib):Rib:=⟨a.L+b.L,a.F++b.F.map (a.L+·),a.W⟩
theorem join_ok {a b:Rib} (ha:RibOk a) (hb:RibOk b) (hL:a.L+b.L≤60) (hF:a.F.length+b.F.length≤12):RibOk (joinR a b):=by
 have h1:=ha.L
 have h2:=hb.L
 refine ⟨by show 1≤a.L+b.L∧a.L+b.L≤60;omega,by show (a.F++b.F.map (a.L+·)).length≤12;simp;omega,ha.nW,ha.W,fun x hx=>?_,?_⟩
 ·show 0≤x∧x≤a.L+b.L-1
  rcases List.mem_append.1 hx with hx|hx
  ·have:=ha.F x hx;omega
  ·obtain ⟨y,hy,rfl⟩:=List.mem_map.1 hx
   have:=hb.F y hy
   omega
 ·show (a.F++b.F.map (a.L+·)).Pairwise (·<·)
  refine List.pairwise_append.2 ⟨ha.s,?_,fun x hx y hy=>?_⟩
  ·rw [List.pairwise_map]
   exact hb.s.imp fun h=>by omega
  ·obtain ⟨z,hz,rfl⟩:=List.mem_map.1 hy
   have:=ha.F x hx
   have:=hb.F z hz
   omega
theorem join_tl {a b:Rib} (ha:RibOk a) (hb:RibOk b) (hW:b.W=a.W):tlR (joinR a b) a.L.toNat=b:=by
 have h1:=ha.L
 obtain ⟨bl,bf,bw⟩:=b
 simp only at hW
 subst hW
 unfold tlR joinR
 simp only
 have e:((a.L.toNat:Nat):Int)=a.L:=by omega
 rw [e]
 have e1:a.L+bl-a.L=bl:=by omega
 have e2:(a.F.filter fun y=>decide (a.L≤y))=[]:=by
  rw [List.filter_eq_nil_iff]
  intro y hy
  have:=ha.F y hy
  simp;omega
 have e3:((bf.map (a.L+·)).filter fun y=>decide (a.L≤y))=bf.map (a.L+·):=by
  rw [List.filter_eq_self]
  intro y hy
  obtain ⟨z,hz,rfl⟩:=List.mem_map.1 hy
  have:=hb.F z hz
  simp only at this
  simp;omega
 rw [e1,List.filter_append,e2,e3,List.nil_append,List.map_map]
 congr 1
 have:((fun x=>x-a.L) ∘ fun x=>a.L+x)=id:=by funext x;simp;omega
 rw [this,List.map_id]
theorem join_tak {a b:Rib} (ha:RibOk a) (hb:RibOk b) {w:Wnt} {x:Nat} {j:Bool} {e p:Int} (hx:x<a.L.toNat) (ht:takL a w x j=some (e,p)):takL (joinR a b) w x j=some (e,p):=by
 have h1:=ha.L
 have h2:=hb.L
 have hbad:∀ y:Nat,y<a.L.toNat→badF (joinR a b) y=badF a y:=fun y hy=>by
  unfold badF joinR
  simp only
  rw [decide_eq_decide,List.mem_append]
  refine ⟨fun q=>q.elim id fun q=>?_,.inl⟩
  obtain ⟨z,hz,e⟩:=List.mem_map.1 q
  have:=hb.F z hz
  omega
 have hok:okT a w x j=true∧(uniP a w x j).2≤limW w j:=by
  unfold takL at ht
  split at ht
  ·assumption
  ·cases ht
 have hl:((uniP a w x j).1.length:Int)=w.lg:=by
  have:=hok.1
  unfold okT at this
  simp only [Bool.and_eq_true,decide_eq_true_eq] at this
  exact this.2
 have hu:uniP (joinR a b) w x j=uniP a w x j:=by
  have e1:(joinR a b).L.toNat-x=(a.L.toNat-x)+b.L.toNat:=by unfold joinR;simp only;omega
  have e2:unL (badF (joinR a b)) j w.lg (a.L.toNat-x) x [] 0=unL (badF a) j w.lg (a.L.toNat-x) x [] 0:=unL_cong _ _ _ _ fun y h3 h4=>hbad y (by omega)
  unfold uniP at hl ⊢
  rw [e1,unL_long (by rw [e2];omega),e2]
 have ho:okT (joinR a b) w x j=okT a w x j:=by unfold okT;rw [hu,hbad x hx]
 unfold takL at ht ⊢
 rw [ho,hu]
 exact ht
theorem join_earn {a b:Rib} (ha:RibOk a) (hb:RibOk b) (hW:b.W=a.W) (hL:a.L+b.L≤60) (hF:a.F.length+b.F.length≤12):valD a 0+valD b 0≤valD (joinR a b) 0:=by
 have hj:=join_ok ha hb hL hF
 have h1:=ha.L
 have h2:=hb.L
 have jl:(joinR a b).L.toNat=a.L.toNat+b.L.toNat:=by unfold joinR;simp only;omega
 have ht:=valD_tl hj (u:=a.L.toNat) (by omega) (y:=0) (by omega)
 rw [join_tl ha hb hW,Nat.zero_add] at ht
 have key:=valD_least ha (v:=fun x=>valD (joinR a b) x-valD b 0) (by rw [← ht];omega) (fun x hx=>by have:=valD_up hj (x:=x) (by omega);show _-_≤_-_;omega) (fun x hx c hc=>by
  have hc2:c ∈ cutL (joinR a b) x:=by
   obtain ⟨k,w,j,hw,ht,he⟩:=cutL_mem.1 hc
   exact cutL_mem.2 ⟨k,w,j,hw,join_tak ha hb hx ht,he⟩
  have:=valD_cut hj (x:=x) (by omega) hc2
  show _+(_-_)≤_-_
  omega) a.L.toNat 0 (by omega)
 have:valD a 0≤valD (joinR a b) 0-valD b 0:=key
 omega
end Go.AM
namespace Go.AM
def sewR (W:List Wnt) (l:List Rib):Rib:=l.foldl joinR ⟨0,[],W⟩
theorem join_assoc {a b c:Rib}:joinR (joinR a b) c=joinR a (joinR b c):=by
 unfold joinR
 simp only [List.map_append,List.map_map,List.append_assoc,Int.add_assoc,Rib.mk.injEq,true_and,and_true]
 rfl
theorem join_nil {a:Rib} {W:List Wnt}:joinR a ⟨0,[],W⟩=a:=by
 unfold joinR
 simp
theorem fold_join {a:Rib}:∀ (m:List Rib) (b:Rib),m.foldl joinR (joinR a b)=joinR a (m.foldl joinR b)
 | [],b=>rfl
 | q :: m,b=>by
  rw [List.foldl_cons,List.foldl_cons,join_assoc,fold_join m]
theorem sew_app {W:List Wnt} {l m:List Rib}:sewR W (l++m)=joinR (sewR W l) (sewR W m):=by
 unfold sewR
 rw [List.foldl_append]
 conv=>lhs;rw [← join_nil (a:=l.foldl joinR ⟨0,[],W⟩) (W:=W)]
 rw [fold_join]
theorem sew_one {W:List Wnt} {l:List Rib} {q:Rib}:sewR W (l++[q])=joinR (sewR W l) q:=by
 unfold sewR
 rw [List.foldl_append];rfl
theorem sew_nil {W:List Wnt}:sewR W []=⟨0,[],W⟩:=rfl
structure GoodQ (q:Rib):Prop where
 L:1≤q.L∧q.L≤9
 n:q.F.length≤2
 F:∀ u ∈ q.F,0≤u∧u<q.L
 s:q.F.Pairwise (·<·)
structure SewOk (W:List Wnt) (k:Nat) (r:Rib):Prop where
 W:r.W=W
 L:(k:Int)≤r.L∧r.L≤9 * k
 n:r.F.length≤2 * k
 F:∀ u ∈ r.F,0≤u∧u<r.L
 s:r.F.Pairwise (·<·)
theorem SewOk.zero {W:List Wnt}:SewOk W 0 ⟨0,[],W⟩:=⟨rfl,by simp,by simp,by simp,by simp⟩
theorem SewOk.join {W:List Wnt} {k:Nat} {r q:Rib} (h:SewOk W k r) (g:GoodQ q):SewOk W (k+1) (joinR r q):=by
 have h1:=h.L
 have h2:=g.L
 have h3:=h.n
 have h4:=g.n
 refine ⟨h.W,by show ((k+1:Nat):Int)≤r.L+q.L∧r.L+q.L≤9 * ((k+1:Nat):Int);omega,by show (r.F++q.F.map (r.L+·)).length≤_;simp;omega,fun x hx=>?_,?_⟩
 ·show 0≤x∧x<r.L+q.L
  rcases List.mem_append.1 hx with hx|hx
  ·have:=h.F x hx;omega
  ·obtain ⟨y,hy,rfl⟩:=List.mem_map.1 hx
   have:=g.F y hy
   omega
 ·show (r.F++q.F.map (r.L+·)).Pairwise (·<·)
  refine List.pairwise_append.2 ⟨h.s,?_,fun x hx y hy=>?_⟩
  ·rw [List.pairwise_map]
   exact g.s.imp fun h=>by omega
  ·obtain ⟨z,hz,rfl⟩:=List.mem_map.1 hy
   have:=h.F x hx
   have:=g.F z hz
   omega
theorem sew_ok {W:List Wnt}:∀ (m:List Rib) {k:Nat} {r:Rib},SewOk W k r→(∀ q ∈ m,GoodQ q)→SewOk W (k+m.length) (m.foldl joinR r)
 | [],k,r,h,_=>h
 | q :: m,k,r,h,g=>by
  have:=sew_ok m (h.join (g q (List.mem_cons_self))) fun p hp=>g p (List.mem_cons_of_mem _ hp)
  rw [List.length_cons,List.foldl_cons]
  rwa [show k+(m.length+1)=k+1+m.length by omega]
theorem sew_is {W:List Wnt} {l:List Rib} (g:∀ q ∈ l,GoodQ q):SewOk W l.length (sewR W l):=by
 have:=sew_ok l SewOk.zero (W:=W) g
 rwa [Nat.zero_add] at this
structure WsOk (W:List Wnt):Prop where
 n:W.length≤6
 ok:∀ w ∈ W,WntOk w
theorem SewOk.rib {W:List Wnt} {k:Nat} {r:Rib} (h:SewOk W k r) (hW:WsOk W) (hk:1≤k∧k≤6):RibOk r:=by
 have h1:=h.L
 have h2:=h.n
 refine ⟨by omega,by omega,by rw [h.W];exact hW.n,by rw [h.W];exact hW.ok,fun x hx=>?_,h.s⟩
 have:=h.F x hx
 omega
def sewV (W:List Wnt) (l:List Rib):Int:=valD (sewR W l) 0
theorem sewV_nil {W:List Wnt}:sewV W []=0:=valD_end (by rw [sew_nil];simp)
theorem sewV_bd {W:List Wnt} {l:List Rib} (hW:WsOk W) (g:∀ q ∈ l,GoodQ q) (hl:l.length≤6):0≤sewV W l∧sewV W l≤6000:=by
 by_cases h0:l.length=0
 ·obtain rfl:=List.eq_nil_of_length_eq_zero h0
  rw [sewV_nil];omega
 ·exact valD_bd ((sew_is g).rib hW (by omega))
theorem sewV_add {W:List Wnt} {l m:List Rib} (hW:WsOk W) (g:∀ q ∈ l,GoodQ q) (g2:∀ q ∈ m,GoodQ q) (hl:l.length+m.length≤6):sewV W l+sewV W m≤sewV W (l++m):=by
 by_cases h0:l.length=0
 ·obtain rfl:=List.eq_nil_of_length_eq_zero h0
  rw [sewV_nil,List.nil_append];omega
 ·by_cases h1:m.length=0
  ·obtain rfl:=List.eq_nil_of_length_eq_zero h1
   rw [sewV_nil,List.append_nil];omega
  ·have a:=sew_is (W:=W) g
   have b:=sew_is (W:=W) g2
   have a1:=a.L
   have b1:=b.L
   have a2:=a.n
   have b2:=b.n
   unfold sewV
   rw [sew_app]
   exact join_earn (a.rib hW (by omega)) (b.rib hW (by omega)) (by rw [a.W,b.W]) (by omega) (by omega)
def oneV (W:List Wnt):List Rib→Int
 | []=>0
 | q :: l=>sewV W [q]+oneV W l
theorem oneV_app {W:List Wnt} {q:Rib}:∀ {l:List Rib},oneV W (l++[q])=oneV W l+sewV W [q]
 | []=>by simp [oneV]
 | p :: l=>by
  have:=oneV_app (W:=W) (q:=q) (l:=l)
  simp only [List.cons_append,oneV,this];omega
theorem oneV_le {W:List Wnt} (hW:WsOk W):∀ {l:List Rib},(∀ q ∈ l,GoodQ q)→l.length≤6→oneV W l≤sewV W l
 | [],_,_=>by rw [sewV_nil];exact Int.le_refl _
 | q :: l,g,hl=>by
  rw [List.length_cons] at hl
  have ih:=oneV_le hW (l:=l) (fun p hp=>g p (List.mem_cons_of_mem _ hp)) (by omega)
  have:=sewV_add hW (l:=[q]) (m:=l) (fun p hp=>by rw [List.mem_singleton] at hp;rw [hp];exact g q (List.mem_cons_self)) (fun p hp=>g p (List.mem_cons_of_mem _ hp)) (by simp;omega)
  rw [List.singleton_append] at this
  simp only [oneV]
  omega
theorem oneV_bd {W:List Wnt} (hW:WsOk W):∀ {l:List Rib},(∀ q ∈ l,GoodQ q)→0≤oneV W l∧oneV W l≤6000 * l.length
 | [],_=>by simp [oneV]
 | q :: l,g=>by
  have ih:=oneV_bd hW (l:=l) fun p hp=>g p (List.mem_cons_of_mem _ hp)
  have:=sewV_bd hW (l:=[q]) (fun p hp=>by rw [List.mem_singleton] at hp;rw [hp];exact g q (List.mem_cons_self)) (by simp)
  simp only [oneV,List.length_cons]
  omega
def pkQ (Q:List Rib) (ps:List Int):List Rib:=ps.map fun p=>Q.getD p.toNat ⟨1,[],[]⟩
theorem pkQ_good {Q:List Rib} {ps:List Int} (g:∀ q ∈ Q,GoodQ q) (h:∀ p ∈ ps,0≤p∧p<(Q.length:Int)):∀ q ∈ pkQ Q ps,GoodQ q:=fun q hq=>by
 obtain ⟨p,hp,rfl⟩:=List.mem_map.1 hq
 have:=h p hp
 exact g _ (by rw [List.getD_eq_getElem?_getD,List.getElem?_eq_getElem (by omega)];exact List.getElem_mem _)
def allV (W:List Wnt) (Q:List Rib):List (List Int)→Int
 | []=>0
 | s :: S=>sewV W (pkQ Q s)+allV W Q S
def sumV (W:List Wnt) (Q:List Rib):List (List Int)→Int
 | []=>0
 | s :: S=>oneV W (pkQ Q s)+sumV W Q S
theorem allV_app {W:List Wnt} {Q:List Rib} {s:List Int}:∀ {S:List (List Int)},allV W Q (S++[s])=allV W Q S+sewV W (pkQ Q s)
 | []=>by simp [allV]
 | p :: l=>by
  have:=allV_app (W:=W) (Q:=Q) (s:=s) (S:=l)
  simp only [List.cons_append,allV,this];omega
theorem sumV_app {W:List Wnt} {Q:List Rib} {s:List Int}:∀ {S:List (List Int)},sumV W Q (S++[s])=sumV W Q S+oneV W (pkQ Q s)
 | []=>by simp [sumV]
 | p :: l=>by
  have:=sumV_app (W:=W) (Q:=Q) (s:=s) (S:=l)
  simp only [List.cons_append,sumV,this];omega
theorem allV_law {W:List Wnt} {Q:List Rib} (hW:WsOk W) (g:∀ q ∈ Q,GoodQ q):∀ {S:List (List Int)},(∀ s ∈ S,∀ p ∈ s,0≤p∧p<(Q.length:Int))→S.flatten.length≤6 →
  (0≤sumV W Q S∧sumV W Q S≤allV W Q S)∧allV W Q S≤sewV W (pkQ Q S.flatten)∧allV W Q S≤6000 * S.flatten.length+6000
 | [],_,_=>by simp [allV,sumV,pkQ,sewV_nil]
 | s :: S,h,hl=>by
  rw [List.flatten_cons,List.length_append] at hl
  obtain ⟨h1,h2,h3⟩:=allV_law hW g (S:=S) (fun t ht=>h t (List.mem_cons_of_mem _ ht)) (by omega)
  have gs:=pkQ_good g (h s (List.mem_cons_self))
  have gS:∀ q ∈ pkQ Q S.flatten,GoodQ q:=pkQ_good g fun p hp=>by
   obtain ⟨t,ht,hp⟩:=List.mem_flatten.1 hp
   exact h t (List.mem_cons_of_mem _ ht) p hp
  have ls:(pkQ Q s).length=s.length:=by simp [pkQ]
  have lS:(pkQ Q S.flatten).length=S.flatten.length:=by unfold pkQ;rw [List.length_map]
  have a1:=oneV_le hW gs (by omega)
  have a2:=oneV_bd hW gs
  have a3:=sewV_add hW gs gS (by omega)
  have a4:sewV W (pkQ Q s++pkQ Q S.flatten)≤6000:=(sewV_bd hW (l:=pkQ Q s++pkQ Q S.flatten) (fun q hq=>(List.mem_append.1 hq).elim (gs q) (gS q)) (by rw [List.length_append];omega)).2
  have e:pkQ Q (s++S.flatten)=pkQ Q s++pkQ Q S.flatten:=by simp [pkQ]
  rw [List.flatten_cons,e]
  simp only [allV,sumV,List.length_append]
  omega
end Go.AM
