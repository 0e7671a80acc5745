/-
  TopWrongCard, walked.
-/
import Derived.Test.YtcemgempgbjbeaaGreatU21
set_option linter.unusedSimpArgs false
set_option linter.unusedVariables false
namespace Go.AM
open Go.Proofs.Tryz
attribute [-go_sem] put_ne put_same
attribute [local go_sem ↓] put_if
theorem stT17 {base:Nat} {l:List Oper} {s:St} {Q:AExit→St→Prop}:WP prog raw base (.region 31 l.toArray true) s Q=WPS prog raw base (.region 31 l.toArray true) s Q:=WP_stop
attribute [local go_sem ↓ 3000] stT17
set_option maxRecDepth 100000 in
set_option maxHeartbeats 8000000 in
theorem run_TopWrongCard {base:Nat} {h:Heap} {v0 v1:AVal} {l0 l1:List Int} {n2 n3 n4:Int} (hB0:Bytes h v0 l0) (hB1:Bytes h v1 l1) (q2:0≤n2∧n2≤255) (q3:0≤n3∧n3≤255) (q4:0≤n4∧n4≤255) :
  callL prog raw base (.fn 4 [] []) [v0,v1,.int .u8 n2,.int .u8 n3,.int .u8 n4] h=some (.bool true,h):=by
 have hw0:=run_wound (base:=h.length) hB0
 have hS0:SpAt (h++[spB v0 l0 0]) h.length v0 l0 0:=SpAt.new hB0 rfl
 obtain ⟨_,H1,e1,w,k0,s0,l,x,k',y1,rfl,oX,hw,hl,hC⟩:=L3.run_madeC (base:=h.length) (W0:=6) (C0:=4) (by simp) hS0 (by omega) (by omega) (by omega)
 have x1:Ext h H1:=y1.old'
 have hl1:=y1.len
 simp only [List.length_append,List.length_cons,List.length_nil] at hl1
 have ox:=oX.one
 have hw6:w≤6:=by omega
 have hp:2 ^ w≤256:=by have:=Nat.pow_le_pow_right (show 0<2 by decide) (show w≤8 by omega);simpa using this
 have sl:Small l:=⟨by omega,fun z hz=>by have:=hC z hz;omega⟩
 have iX:=own_ints oX sl
 obtain ⟨G1,eG1⟩:∃ G1,G1=H1++[L3.chB (w:Int) x 0 0]:=⟨_,rfl⟩
 have xG1:Ext H1 G1:=by rw [eG1];exact .app .refl
 have hG1:G1.length=H1.length+1:=by rw [eG1];simp
 have g1:G1[H1.length]?=some (L3.chB (w:Int) x 0 0):=by rw [eG1];exact get_eq rfl
 obtain ⟨_,G2,e2,x2,xx,rfl,oY⟩:=run_Owned (base:=h.length) (W:=(w:Int)) (k:=0) (s:=0) (by omega) (iX.ext xG1) (by omega)
 have hG2:=x2.len
 have oy:=oY.one
 obtain ⟨m,em⟩:∃ m,m=l.length:=⟨_,rfl⟩
 rcases oY with (⟨_,e⟩|⟨id2,ver2,exx,gY,hid2,_⟩)|⟨_,e⟩
 ·rw [e] at hl;simp at hl
 ·obtain ⟨G3,eG3⟩:∃ G3,G3=G2++[L3.chB (w:Int) xx 0 0]:=⟨_,rfl⟩
  have x3:Ext G2 G3:=by rw [eG3];exact .app .refl
  have hG3:G3.length=G2.length+1:=by rw [eG3];simp
  have g3:G3[G2.length]?=some (L3.chB (w:Int) xx 0 0):=by rw [eG3];exact get_eq rfl
  have gY3:G3[id2]?=some (srB l 3 ver2):=by rw [x3.get gY,rowE,flat_encI]
  -- which card,which thread,how many throws
  obtain ⟨k,ek⟩:=Int.eq_ofNat_of_zero_le (Int.tmod_nonneg (l.length:Int) q2.1)
  have hk:k<l.length:=by have:=Int.tmod_lt_of_pos n2 (b:=(l.length:Int)) (by omega);omega
  obtain ⟨j,ej⟩:=Int.eq_ofNat_of_zero_le (Int.tmod_nonneg (w:Int) q3.1)
  have hj:j<w:=by have:=Int.tmod_lt_of_pos n3 (b:=(w:Int)) (by omega);omega
  obtain ⟨M,eM⟩:=Int.eq_ofNat_of_zero_le (Int.tmod_nonneg 12 q4.1)
  have hM:M<12:=by have:=Int.tmod_lt_of_pos n4 (b:=12) (by omega);omega
  have hck:=hC _ (getD_mem hk)
  obtain ⟨c,ec⟩:∃ c:Nat,l.getD k 0=(c:Int):=⟨(l.getD k 0).toNat,by omega⟩
  have hcw:c<2 ^ w:=by omega
  obtain ⟨hx1,hx2⟩:=crd_xor hcw hj
  have hj2:2 ^ j<2 ^ w:=Nat.pow_lt_pow_right (by decide) hj
  obtain ⟨l2,el2⟩:∃ l2,l2=l.set k ((c ^^^ 2 ^ j:Nat):Int):=⟨_,rfl⟩
  have hl2:l2.length=l.length:=by rw [el2,List.length_set]
  have hC2:L3.Crds w l2:=fun z hz=>by
   rw [el2] at hz
   rcases List.mem_or_eq_of_mem_set hz with q|q
   ·exact hC z q
   ·rw [q];omega
  have sl2:Small l2:=⟨by omega,fun z hz=>by have:=hC2 z hz;omega⟩
  obtain ⟨G4,eG4⟩:∃ G4,G4=G3.set id2 (srB l2 3 ver2):=⟨_,rfl⟩
  have hG4:G4.length=G3.length:=by rw [eG4,List.length_set]
  have xG4:Ext G1 G4:=by rw [eG4];exact (x2.trans x3).set hid2
  have hidl:=lt_of_get gY
  have g4a:=xG4.get g1
  have g4b:G4[G2.length]?=some (L3.chB (w:Int) xx 0 0):=by rw [eG4,List.getElem?_set_ne (by omega)];exact g3
  have oX4:=((oX.ext xG1).ext xG4)
  have oY4:Own encI 3 G1.length G4 xx l2:=.inr ⟨id2,ver2,by rw [hl2];exact exx,by rw [eG4,List.getElem?_set_self (by omega),rowE,flat_encI],hid2,by omega⟩
  obtain ⟨_,G5,e5,x5,p,rfl,oP⟩:=L3.run_weaveC (base:=h.length) (w:=w) (n:=12) (by omega) (own_ints oX4 sl) (by omega) (by omega) hC (by omega)
  have hG5:=x5.len
  have op:=oP.one
  obtain ⟨G6,eG6⟩:∃ G6,G6=G5++[⟨.cells [.int .i64 (w:Int),p] 54 false false,0⟩]:=⟨_,rfl⟩
  have x6:Ext G5 G6:=by rw [eG6];exact .app .refl
  have hG6:G6.length=G5.length+1:=by rw [eG6];simp
  have g6:G6[G5.length]?=some ⟨.cells [.int .i64 (w:Int),p] 54 false false,0⟩:=by rw [eG6];exact get_eq rfl
  have x46:=x5.trans x6
  obtain ⟨_,G7,e7,x7,q,rfl,oQ⟩:=L3.run_weaveC (base:=h.length) (w:=w) (n:=12) (by omega) ((own_ints oY4 sl2).ext x46) (by omega) (by omega) hC2 (by omega)
  have hG7:=x7.len
  have oq:=oQ.one
  obtain ⟨G8,eG8⟩:∃ G8,G8=G7++[⟨.cells [.int .i64 (w:Int),q] 54 false false,0⟩]:=⟨_,rfl⟩
  have x8:Ext G7 G8:=by rw [eG8];exact .app .refl
  have hG8:G8.length=G7.length+1:=by rw [eG8];simp
  have g8:G8[G7.length]?=some ⟨.cells [.int .i64 (w:Int),q] 54 false false,0⟩:=by rw [eG8];exact get_eq rfl
  have x68:=x7.trans x8
  have g8p:=x68.get g6
  have g6b:=x46.get g4b
  have g8c:=(x46.trans x68).get g4a
  have iP8:=(own_ints oP (wvC_small (by omega) (by omega) hC (by omega))).ext (x6.trans x68)
  have iQ8:=(own_ints oQ (wvC_small (by omega) (by omega) hC2 (by omega))).ext x8
  have lP8:lenOpA prog G8 35 p=some (.int .i64 12):=by have:=lenI iP8;rwa [wvC_len] at this
  have lQ8:lenOpA prog G8 35 q=some (.int .i64 12):=by have:=lenI iQ8;rwa [wvC_len] at this
  have cu1:=cvU q2
  have cu2:=cvU q3
  have cu3:=cvU q4
  have r1:binA prog .rem 3 (.int .i64 n2) (.int .i64 (l.length:Int))=some (.int .i64 (k:Int)):=by rw [bin_rem (by omega),ek]
  have r2:binA prog .rem 3 (.int .i64 n3) (.int .i64 (w:Int))=some (.int .i64 (j:Int)):=by rw [bin_rem (by omega),ej]
  have r3:binA prog .rem 3 (.int .i64 n4) (.int .i64 12)=some (.int .i64 (M:Int)):=by rw [bin_rem (by omega),eM]
  have sh:=fun t=>L3.shl_bit (t:=t) (w:=j) (by omega)
  have xr:=fun t=>L3.xor_bits (t:=t) (a:=c) (b:=2 ^ j) (by omega) (by omega)
  have i2x:Ints G2 x l:=(iX.ext xG1).ext x2
  have i3x:Ints G3 x l:=i2x.ext x3
  have a2:indexAddrA prog 35 xx (.int .i64 (k:Int))=some (.ptr (some ⟨id2,ver2,k⟩)):=by
   rw [exx,adr_sl Fc.el35 Fc.ar35 (by omega) (by omega),Int.toNat_natCast,Nat.mul_one,Nat.zero_add]
  have d2:loadP prog G3 3 (.ptr (some ⟨id2,ver2,k⟩))=some (.int .i64 (c:Int)):=by
   rw [load_eq,Fc.ty3,gY3]
   rw [← ec];exact ldB_ints hk
  have st:∀ {K:ABlk→Heap},stQ h.length id2 (some (srB l 3 ver2)) ver2 k [.int .i64 ((c ^^^ 2 ^ j:Nat):Int)] K=some (K (srB l2 3 ver2)):=fun {K}=>by
   rw [el2];exact stQ_ints hk
  have g2a:G2[H1.length]?=some (L3.chB (w:Int) x 0 0):=x2.get g1
  have g3a:=x3.get g2a
  have i3l:lenOpA prog G3 35 x=some (.int .i64 (l.length:Int)):=lenI i3x
  obtain ⟨A1,eA1⟩:∃ A1,A1=G8++[rowB [0] 0]:=⟨_,rfl⟩
  have xA1:Ext G8 A1:=by rw [eA1];exact .app .refl
  have lA1:A1.length=G8.length+1:=by rw [eA1];simp
  have iA1:Ints A1 (.slice (some ⟨G8.length,0,0⟩) 1 1) [0]:=by rw [eA1];exact slice_row rfl rfl ⟨by simp,by decide⟩
  obtain ⟨A2,eA2⟩:∃ A2,A2=A1++[rowE Flt.encP 58 [⟨.slice (some ⟨G8.length,0,0⟩) 1 1,(l.length:Int),(k:Int),false⟩] 0]:=⟨_,rfl⟩
  have xA2:Ext A1 A2:=by rw [eA2];exact .app .refl
  have lA2:A2.length=G8.length+2:=by rw [eA2];simp [lA1]
  have rA2:Rows Flt.encP A2 (.slice (some ⟨A1.length,0,0⟩) 1 1) [⟨.slice (some ⟨G8.length,0,0⟩) 1 1,(l.length:Int),(k:Int),false⟩]:=Rows.own (ver:=0) (by rw [eA2];exact get_eq rfl) rfl (by simp)
  obtain ⟨A3,eA3⟩:∃ A3,A3=A2++[(⟨.cells [.int .i64 1,.int .i64 12,.slice (some ⟨A1.length,0,0⟩) 1 1,.slice none 0 0] 62 false false,0⟩:ABlk)]:=⟨_,rfl⟩
  have xA3:Ext A2 A3:=by rw [eA3];exact .app .refl
  have lA3:A3.length=G8.length+3:=by rw [eA3];simp [lA2]
  have gA3:A3[A2.length]?=some ⟨.cells [.int .i64 1,.int .i64 12,.slice (some ⟨A1.length,0,0⟩) 1 1,.slice none 0 0] 62 false false,0⟩:=by rw [eA3];exact get_eq rfl
  have gA1c:=xA1.get g8c
  have iA1l:lenOpA prog A1 35 x=some (.int .i64 (l.length:Int)):=lenI (((iX.ext xG1).ext xG4).ext ((x46.trans x68).trans xA1))
  have bsW:∀ {lit:Bool},bsA prog lit A1 59 1 [(0,.agg [.slice (some ⟨G8.length,0,0⟩) 1 1,.int .i64 (l.length:Int),.int .i64 (k:Int),.bool false])]=some (.slice (some ⟨A1.length,0,0⟩) 1 1,A2):=fun {lit}=>by
   rw [eA2]
   simp [bsA,rowOf,Fc.el59,fillA,repCells,AVal.isN,AVal.cells,splice,rowE,flat,Flt.encP,Flt.norm,AVal.scalar]
  have lom:Flt.LomAt A3 (.agg [.int .i64 1,.int .i64 12,.slice (some ⟨A1.length,0,0⟩) 1 1,.slice none 0 0]) ⟨1,12,[⟨[0],(l.length:Int),(k:Int),false⟩],[]⟩:=by
   refine ⟨_,_,rfl,⟨_,rA2.ext xA3,rfl,fun i y p a b=>?_⟩,Rows.nil⟩
   match i with
   | 0 =>
    obtain rfl:=Option.some.inj a
    obtain rfl:=Option.some.inj b
    exact ⟨iA1.ext (xA2.trans xA3),rfl,rfl,rfl⟩
   | i+1=>simp at a
  have lm4:1≤l.length∧l.length≤4:=by omega
  obtain ⟨w9,K,e9,x9,sp,rfl,oS⟩:=Flt.run_spoils (base:=h.length) (b:=(0,0,11)) (by omega) lom (fun p hp=>by rw [List.mem_singleton] at hp;subst hp;exact ⟨by simp,fun z hz=>by simp at hz;omega⟩) (by simp) (by simp) (fun _ _=>Int.le_refl _) (fun p hp=>by rw [List.mem_singleton] at hp;subst hp;simp)
  obtain ⟨se,sl⟩:=spl12e lm4 hk
  rw [se] at e9
  obtain ⟨S,eS⟩:∃ S,S=(Flt.splM ⟨1,12,[⟨[0],(l.length:Int),(k:Int),false⟩],[]⟩ (0,0,11)).1:=⟨_,rfl⟩
  have mS:∀ t:Nat,t<12→(((0:Int),(t:Int)) ∈ S)=(t % l.length=k):=fun t ht=>by rw [eS];exact spl12 lm4 hk ht
  rw [← eS] at oS sl
  simp only [Flt.encB] at e9
  have osp:=oS.one
  have hK:=x9.len
  have xK8:Ext G8 K:=xA1.trans (xA2.trans (xA3.trans x9))
  obtain ⟨Z0,eZ0⟩:∃ Z0,Z0=K++[ribB 12 (.slice none 0 0) (.slice none 0 0)]++[ribB 12 (.slice none 0 0) (.slice none 0 0)]:=⟨_,rfl⟩
  have xZ0:Ext K Z0:=by rw [eZ0];exact .app (.app .refl)
  have lZ0:Z0.length=K.length+2:=by rw [eZ0];simp
  have z1:Z0[K.length]?=some (ribB 12 (.slice none 0 0) (.slice none 0 0)):=by rw [eZ0];exact get_app (get_eq rfl)
  have z2:Z0[K.length+1]?=some (ribB 12 (.slice none 0 0) (.slice none 0 0)):=by rw [eZ0];exact get_eq (by simp)
  have c12:((12:Nat):Int)=12:=rfl
  rw [c12] at e5 e7
  unfold L3.chB at *
  unfold ribB at eZ0
  refine callL_run func4 rfl rfl ?_
  have hsp:=@Nat.succ_ne_zero;repeat' (first|simp (disch:=first|exact dqc|fail) only [go_sem,↓reduceIte,hsp,hw0,e1,← eG1,g1,e2,← eG3,g3,g3a,cu1,cu2,cu3,i3l,r1,r2,r3,a2,d2,sh,xr,gY3,st,← eG4,g4a,e5,← eG6,g6b,e7,← eG8,g8p,lP8,g8,lQ8,bsrI,← eA1,gA1c,iA1l,bsW,← eA3,gA3,e9,← eZ0]|refine WP_drw ?_|refine cnd_intro (fun hsp=>?_) fun hsp=>?_)
  refine WP_count [(10,10),(22,145)] 0 12 (by omega) (fun _ t fr h'=>fr 104=.int .i64 (t:Int)∧∃ u1 u2,Ext K h'∧h'[K.length]?=some (ribB 12 u1 (.slice none 0 0))∧h'[K.length+1]?=some (ribB 12 u2 (.slice none 0 0))∧Own encI 3 (K.length+2) h' u1 (flt l.length k t)∧Own encI 3 (K.length+2) h' u2 (flt l.length k (min t M))∧Asun u1 u2∧K.length+2≤h'.length) ?_ ?_ ?_
  ·exact ⟨by (simp (disch:=first|exact dqc|fail) only [go_sem,↓reduceIte,Int.natCast_zero];first|done|rfl),.slice none 0 0,.slice none 0 0,xZ0,z1,z2,by rw [flt_zero];exact Own.nil,by rw [Nat.zero_min,flt_zero];exact Own.nil,Asun.nil,by omega⟩
  ·rintro t fr H ht0 ht hA ⟨p104,u1,u2,xH,b1,b2,o1,o2,hAs,lH⟩
   have p1:=hA 1 rfl
   have p4:=hA 4 rfl
   have p14:=hA 14 rfl
   have p16:=hA 16 rfl
   have p19:=hA 19 rfl
   have p20:=hA 20 rfl
   have p21:=hA 21 rfl
   try simp (disch:=first|exact dqc|fail) only [go_sem,↓reduceIte] at p1 p4 p14 p16 p19 p20 p21
   have hlt:((t:Int)<12)=True:=eq_true (by omega)
   have x8H:=xK8.trans xH
   have gp:=x8H.get g8p
   have gq:=x8H.get g8
   have iP:=iP8.ext x8H
   have iQ:=iQ8.ext x8H
   have ltP:t<(L3.wvC l 12).length:=by rw [wvC_len];exact ht
   have ltQ:t<(L3.wvC l2 12).length:=by rw [wvC_len];exact ht
   have aP:=adrI (i:=(t:Int)) (by omega) iP (by omega)
   have aQ:=adrI (i:=(t:Int)) (by omega) iQ (by omega)
   have dP:=loadI iP ltP
   have dQ:=loadI iQ ltQ
   rw [Int.toNat_natCast] at aP aQ
   have vP:=wvC_at (l:=l) ht
   have vQ:=wvC_at (l:=l2) ht
   rw [hl2] at vQ
   have cT:=fun base=>run_containsT (base:=base) (c:=((0:Int),(t:Int))) ((oS.ext xH).rows (by omega))
   rw [decide_eq_decide.2 (iff_of_eq (mS t ht))] at cT
   have key:((L3.wvC l 12).getD t 0 ≠ (L3.wvC l2 12).getD t 0)=(t % l.length=k):=by
    rw [vP,vQ]
    by_cases c1:t % l.length=k
    ·refine propext ⟨fun _=>c1,fun _ q=>?_⟩
     rw [c1,ec,el2,List.getD_eq_getElem?_getD (l:=l.set _ _),List.getElem?_set_self hk] at q
     simp only [Option.getD_some] at q
     omega
    ·rw [eq_false c1,el2,List.getD_eq_getElem?_getD (l:=l.set _ _),List.getElem?_set_ne (fun q=>c1 q.symm),← List.getD_eq_getElem?_getD]
     simp
   have f1:=flt_len (m:=l.length) (k:=k) (n:=t)
   have f2:=flt_len (m:=l.length) (k:=k) (n:=min t M)
   have ou1:=o1.one
   have ou2:=o2.one
   by_cases c1:t % l.length=k
   ·have k2:((L3.wvC l 12).getD t 0=(L3.wvC l2 12).getD t 0)=False:=eq_false (by rw [← ne_eq,key];exact c1)
    rw [decide_eq_true c1] at cT
    obtain ⟨w1,H1',e1',oW1,oU2,as1,one1,lH1,xH1,kp1⟩:=app_two (base:=h.length) (x:=(t:Int)) o1 o2 hAs (by omega) lH (by omega) (by omega)
    have b1':=kp1.box b1
    have b2':=kp1.box b2
    obtain ⟨H2,eH2⟩:∃ H2,H2=H1'.set K.length (ribB 12 w1 (.slice none 0 0)):=⟨_,rfl⟩
    have lH2:H2.length=H1'.length:=by rw [eH2,List.length_set]
    have xH2:Ext K H2:=by rw [eH2];exact (xH1 _ (by omega) xH).set (Nat.le_refl _)
    have g1':H2[K.length]?=some (ribB 12 w1 (.slice none 0 0)):=by rw [eH2,List.getElem?_set_self (lt_of_get b1')]
    have g2':H2[K.length+1]?=some (ribB 12 u2 (.slice none 0 0)):=by rw [eH2,List.getElem?_set_ne (by omega)];exact b2'
    have oA:Own encI 3 (K.length+2) H2 w1 (flt l.length k (t+1)):=by rw [eH2,flt_hit c1];exact oW1.setBox b1'
    have oB:Own encI 3 (K.length+2) H2 u2 (flt l.length k (min t M)):=by rw [eH2];exact oU2.setBox b1'
    by_cases c2:t<M
    ·have t2:((t:Int)<(M:Int))=True:=eq_true (by omega)
     rw [Nat.min_eq_left (by omega)] at oB f2
     obtain ⟨w2,H3,e3',oW2,oU3,as2,one2,lH3,xH3,kp3⟩:=app_two (base:=h.length) (x:=(t:Int)) oB oA (as1.symm) (by omega) (by omega) (by omega) (by omega)
     have b1'':=kp3.box g1'
     have b2'':=kp3.box g2'
     unfold ribB at b1 b2 eH2 g2'
     have hsp:=@Nat.succ_ne_zero;repeat' (first|simp (disch:=first|exact dqc|fail) only [go_sem,↓reduceIte,hsp,p1,p4,p14,p16,p19,p20,p21,p104,hlt,gp,aP,dP,gq,aQ,dQ,k2,cT,b1,bsrI,e1',b1',← eH2,cu3,r3,t2,g2',e3',b2'',eq_self,decide_true,decide_false,neB,not_true,Bool.not_false,not_false_iff]|refine WP_drw ?_|refine cnd_intro (fun hsp=>?_) fun hsp=>?_)
     refine ⟨agq,by omega,w1,w2,(xH3 _ (by omega) xH2).set (by omega),by first|exact b1''|(rw [List.getElem?_set_ne (by omega)];exact b1''),rfl,oU3.setBox b2'',?_,as2.symm,by omega⟩
     rw [Nat.min_eq_left (by omega),flt_hit c1]
     exact oW2.setBox b2''
    ·have t2:((t:Int)<(M:Int))=False:=eq_false (by omega)
     unfold ribB at b1 b2 eH2 g2'
     have hsp:=@Nat.succ_ne_zero;repeat' (first|simp (disch:=first|exact dqc|fail) only [go_sem,↓reduceIte,hsp,p1,p4,p14,p16,p19,p20,p21,p104,hlt,gp,aP,dP,gq,aQ,dQ,k2,cT,b1,bsrI,e1',b1',← eH2,cu3,r3,t2,eq_self,decide_true,decide_false,neB,not_true,Bool.not_false,not_false_iff]|refine WP_drw ?_|refine cnd_intro (fun hsp=>?_) fun hsp=>?_)
     refine ⟨agq,by omega,w1,u2,xH2,g1',g2',oA,?_,as1,by omega⟩
     rw [show min (t+1) M=min t M by omega]
     exact oB
   ·have k2:((L3.wvC l 12).getD t 0=(L3.wvC l2 12).getD t 0)=True:=eq_true (Decidable.of_not_not fun q=>c1 (by rw [← key];exact q))
    rw [decide_eq_false c1] at cT
    have hsp:=@Nat.succ_ne_zero;repeat' (first|simp (disch:=first|exact dqc|fail) only [go_sem,↓reduceIte,hsp,p1,p4,p14,p16,p19,p20,p21,p104,hlt,gp,aP,dP,gq,aQ,dQ,k2,cT,eq_self,decide_true,decide_false,neB,not_true,Bool.not_false,not_false_iff]|refine WP_drw ?_|refine cnd_intro (fun hsp=>?_) fun hsp=>?_)
    refine ⟨agq,by omega,u1,u2,xH,b1,b2,by rw [flt_miss c1];exact o1,?_,hAs,lH⟩
    by_cases c2:t<M
    ·rw [Nat.min_eq_left (by omega),flt_miss c1]
     rw [Nat.min_eq_left (by omega)] at o2
     exact o2
    ·rw [show min (t+1) M=min t M by omega]
     exact o2
  ·rintro fr H hA ⟨p104,u1,u2,xH,b1,b2,o1,o2,hAs,lH⟩
   have p1:=hA 1 rfl
   have p4:=hA 4 rfl
   have p14:=hA 14 rfl
   have p16:=hA 16 rfl
   have p19:=hA 19 rfl
   have p20:=hA 20 rfl
   have p21:=hA 21 rfl
   try simp (disch:=first|exact dqc|fail) only [go_sem,↓reduceIte] at p1 p4 p14 p16 p19 p20 p21
   have hlt:((12:Int)<12)=False:=eq_false (by omega)
   rw [Nat.min_eq_right (by omega)] at o2
   obtain ⟨F1,eF1⟩:∃ F1,F1=flt l.length k 12:=⟨_,rfl⟩
   obtain ⟨F2,eF2⟩:∃ F2,F2=flt l.length k M:=⟨_,rfl⟩
   have sF1:Small F1:=by rw [eF1];exact flt_small (by omega)
   have sF2:Small F2:=by rw [eF2];exact flt_small (by omega)
   have nF1:F1.length≤12:=by rw [eF1];exact flt_len
   have nF2:F2.length≤12:=by have:=flt_len (m:=l.length) (k:=k) (n:=M);rw [eF2];omega
   rw [← eF1] at o1
   rw [← eF2] at o2
   have ou1:=o1.one
   have ou2:=o2.one
   have nU1:=lenI (own_ints o1 sF1)
   have t12:((F1.length:Int) > 12)=False:=eq_false (by omega)
   have xhK:Ext h K:=x1.trans (xG1.trans (xG4.trans (x46.trans (x68.trans xK8))))
   have hB1H:=hB1.ext (xhK.trans xH)
   have hw1:=run_wound (base:=h.length) hB1H
   obtain ⟨Y0,eY0⟩:∃ Y0,Y0=H++[spB v1 l1 0]:=⟨_,rfl⟩
   have spN:SpAt Y0 H.length v1 l1 0:=by rw [eY0];exact SpAt.new hB1H rfl
   have hv1:=spN.2.2
   rw [← eY0] at hw1
   have xY0:Ext H Y0:=by rw [eY0];exact .app .refl
   have lY0:Y0.length=H.length+1:=by rw [eY0];simp
   have f1:=fun base=>run_from (base:=base) (lo:=1) (hi:=4) spN (by omega) (by omega) (by omega)
   have uN:=up_bd (silk:=l1) (k:=0) (n:=4-1) (by omega)
   obtain ⟨N,eN⟩:=Int.eq_ofNat_of_zero_le (show 0≤1+up l1 0 (4-1) by omega)
   rw [eN] at f1
   obtain ⟨Y1,eY1⟩:∃ Y1,Y1=Y0.set H.length (spB v1 l1 (0+1)):=⟨_,rfl⟩
   rw [← eY1] at f1
   have lY1:Y1.length=H.length+1:=by rw [eY1,List.length_set,lY0]
   have gY1:Y1[H.length]?=some (spB v1 l1 1):=by rw [eY1,List.getElem?_set_self (by omega)]
   have xHY1:Ext H Y1:=by rw [eY1];exact xY0.set (Nat.le_refl _)
   have c1:=xHY1.get b1
   have c2:=xHY1.get b2
   have b1':=b1
   unfold ribB at b1'
   have hsp:=@Nat.succ_ne_zero;repeat' (first|simp (disch:=first|exact dqc|fail) only [go_sem,↓reduceIte,hsp,p1,p4,p14,p16,p19,p20,p21,p104,hlt,b1',nU1,t12,hw1,f1]|refine WP_drw ?_|refine cnd_intro (fun hsp=>?_) fun hsp=>?_)
   refine WP_count [(154,166)] 0 N (Nat.zero_le _) (fun _ i fr h'=>fr 154=.int .i64 (i:Int)∧∃ W wv kk,kk≤1+2 * i∧Ext K h'∧h'[H.length]?=some (spB v1 l1 kk)∧h'[K.length]?=some (ribB 12 u1 wv)∧h'[K.length+1]?=some (ribB 12 u2 (.slice none 0 0))∧Own encI 3 (K.length+2) h' u1 F1∧Own encI 3 (K.length+2) h' u2 F2∧Own encW 74 (K.length+2) h' wv W∧W.length=i∧(∀ w ∈ W,WntOk w∧w.fl=0∧w.jn=0)∧H.length<h'.length) ?_ ?_ ?_
   ·exact ⟨by (simp (disch:=first|exact dqc|fail) only [go_sem,↓reduceIte,Int.natCast_zero];first|done|rfl),[],.slice none 0 0,1,by omega,xH.trans xHY1,gY1,c1,c2,o1.ext xHY1,o2.ext xHY1,Own.nil,rfl,(fun w hw=>by cases hw),by omega⟩
   ·rintro i fr2 J hi0 hi hB ⟨d154,W,wv,kk,hkk,xJ,gJ,j1,j2,oJ1,oJ2,oJW,hWl,hWo,lJ⟩
    have d10:=hB 10 rfl
    have d20:=hB 20 rfl
    have d21:=hB 21 rfl
    have d24:=hB 24 rfl
    have d153:=hB 153 rfl
    try simp (disch:=first|exact dqc|fail) only [go_sem,↓reduceIte,p20,p21] at d10 d20 d21 d24 d153
    have hlt2:((i:Int)<(N:Int))=True:=eq_true (by omega)
    have owv:=oJW.one
    have ub1:=up_bd (silk:=l1) (k:=kk) (n:=(6-1)) (by omega)
    have e1:=fun base=>run_from (base:=base) (lo:=1) (hi:=6) (h:=J) (k:=kk) ⟨gJ,hB1.ext (xhK.trans xJ),hv1⟩ (by omega) (by omega) (by omega)
    obtain ⟨w1,ew1⟩:∃ w1,w1=1+up l1 kk (6-1):=⟨_,rfl⟩
    rw [← ew1] at e1
    obtain ⟨M1,eM1⟩:∃ M1,M1=J.set H.length (spB v1 l1 (kk+1)):=⟨_,rfl⟩
    rw [← eM1] at e1
    have xM1:Ext K M1:=by rw [eM1];exact xJ.set (by omega)
    have gM1:M1[H.length]?=some (spB v1 l1 (kk+1)):=by rw [eM1,List.getElem?_set_self lJ]
    have m1:M1[K.length]?=some (ribB 12 u1 wv):=by rw [eM1,List.getElem?_set_ne (by omega)];exact j1
    have m2:M1[K.length+1]?=some (ribB 12 u2 (.slice none 0 0)):=by rw [eM1,List.getElem?_set_ne (by omega)];exact j2
    have lM1:M1.length=J.length:=by rw [eM1,List.length_set]
    have ub2:=up_bd (silk:=l1) (k:=kk+1) (n:=40) (by omega)
    have e2:=fun base=>run_upto (base:=base) (n:=40) (h:=M1) (k:=kk+1) ⟨gM1,hB1.ext (xhK.trans xM1),hv1⟩ (by omega) (by omega)
    obtain ⟨w2,ew2⟩:∃ w2,w2=up l1 (kk+1) 40:=⟨_,rfl⟩
    rw [← ew2] at e2
    obtain ⟨M2,eM2⟩:∃ M2,M2=M1.set H.length (spB v1 l1 (kk+1+1)):=⟨_,rfl⟩
    rw [← eM2] at e2
    have xM2:Ext K M2:=by rw [eM2];exact xM1.set (by omega)
    have gM2:M2[H.length]?=some (spB v1 l1 (kk+1+1)):=by rw [eM2,List.getElem?_set_self (by omega)]
    have m1':M2[K.length]?=some (ribB 12 u1 wv):=by rw [eM2,List.getElem?_set_ne (by omega)];exact m1
    have m2':M2[K.length+1]?=some (ribB 12 u2 (.slice none 0 0)):=by rw [eM2,List.getElem?_set_ne (by omega)];exact m2
    have lM2:M2.length=M1.length:=by rw [eM2,List.length_set]
    have gJ':=gJ
    have gM1':=gM1
    unfold spB at gJ' gM1'
    have p1:Own encI 3 (K.length+2) M2 u1 F1:=by rw [eM2,eM1];exact (oJ1.setBox gJ').setBox (by rw [← spB,← eM1];exact gM1')
    have p2:Own encI 3 (K.length+2) M2 u2 F2:=by rw [eM2,eM1];exact (oJ2.setBox gJ').setBox (by rw [← spB,← eM1];exact gM1')
    have p3:Own encW 74 (K.length+2) M2 wv W:=by rw [eM2,eM1];exact (oJW.setBox gJ').setBox (by rw [← spB,← eM1];exact gM1')
    obtain ⟨wr,ewr⟩:∃ wr:Wnt,wr=⟨w1,w2,0,0,0⟩:=⟨_,rfl⟩
    have hwr:WntOk wr∧wr.fl=0∧wr.jn=0:=by rw [ewr];exact ⟨⟨by simp only;omega,by simp only;omega,by simp only;omega,by simp only;omega,by simp only;omega⟩,rfl,rfl⟩
    have bsw:∀ {lit:Bool},bsA prog lit M2 36 1 [(0,.agg [.int .i64 w1,.int .i64 w2,.int .i64 0,.int .i64 0,.int .i64 0])]=some (.slice (some ⟨M2.length,0,0⟩) 1 1,M2++[rowE encW 74 [wr] 0]):=fun {lit}=>by
     rw [ewr];exact bsWY (w:=⟨w1,w2,0,0,0⟩)
    obtain ⟨w',M6,ea,oW6,lW6,eW6,oneW,kW⟩:=snocWY (base:=h.length) (r:=wr) p3 (by omega) (by omega) (by omega)
    have s1:=kW.box m1'
    have s2:=kW.box m2'
    have s3:=kW.box gM2
    have f6:=kW.own p1 (by decide)
    have g6:=kW.own p2 (by decide)
    have x6:Ext K M6:=eW6 _ (by omega) xM2
    have j1':=j1
    have m3:=m1
    have m4:=m1'
    unfold ribB at j1' m3 m4
    have hlow:refsLow J.length wv:=oJW.low_refs
    have hsp:=@Nat.succ_ne_zero;repeat' (first|simp (disch:=first|exact dqc|fail) only [go_sem,↓reduceIte,hsp,d10,d20,d21,d24,d153,d154,p1,p4,p14,p16,p19,p20,p21,p104,hlt2]|refine WP_drw ?_|refine cnd_intro (fun hsp=>?_) fun hsp=>?_)
    refine WPS_go ?_
    refine WP_wild [⟨1,36,156,⟨K.length,0,2⟩,wv,8⟩] (by kernel_rfl) (by kernel_rfl) (by kernel_rfl) ⟨hlow,trivial⟩ fun KK hK=>?_
    iterate 11
     rw [TRS_cons]
     refine ⟨by first|(simp (disch:=first|exact dqc|fail) only [go_sem,↓reduceIte,d10,d20,d21,d24,d153,d154,p1,p4,p14,p16,p19,p20,p21,p104,j1',e1,m3,e2,m4,bsw,ea,s1,ldsQ_cons,ldsQ_nil,grdQ_cons,grdQ_nil,if_true,Nat.reduceLeDiff];done)|exact trivial,?_⟩
     simp (disch:=first|exact dqc|fail) only [go_sem,↓reduceIte,d10,d20,d21,d24,d153,d154,p1,p4,p14,p16,p19,p20,p21,p104,j1',e1,m3,e2,m4,bsw,ea,s1]
    rw [TRS_nil]
    refine ⟨by first|(simp (disch:=first|exact dqc|fail) only [go_sem,↓reduceIte,d10,d20,d21,d24,d153,d154,p1,p4,p14,p16,p19,p20,p21,p104,j1',e1,m3,e2,m4,bsw,ea,s1,ldsQ_cons,ldsQ_nil,grdQ_cons,grdQ_nil,if_true,Nat.reduceLeDiff];done)|exact trivial,?_⟩
    subst hK
    have hsp:=@Nat.succ_ne_zero;repeat' (first|simp (disch:=first|exact dqc|fail) only [go_sem,↓reduceIte,hsp,d10,d20,d21,d24,d153,d154,p1,p4,p14,p16,p19,p20,p21,p104]|refine WP_drw ?_|refine cnd_intro (fun hsp=>?_) fun hsp=>?_)
    refine ⟨agq,by omega,W++[wr],w',kk+1+1,by omega,x6.set (Nat.le_refl _),by first|exact s3|(rw [List.getElem?_set_ne (by omega)];exact s3),rfl,by first|exact s2|(rw [List.getElem?_set_ne (by omega)];exact s2),f6.setBox s1,g6.setBox s1,oW6.setBox s1,by simp;omega,fun w hw=>?_,by omega⟩
    rcases List.mem_append.1 hw with hw|hw
    ·exact hWo w hw
    ·rw [List.mem_singleton] at hw;rw [hw];exact hwr
   ·rintro fr2 J hB ⟨d154,W,wv,kk,hkk,xJ,gJ,j1,j2,oJ1,oJ2,oJW,hWl,hWo,lJ⟩
    have d10:=hB 10 rfl
    have d20:=hB 20 rfl
    have d21:=hB 21 rfl
    have d24:=hB 24 rfl
    have d153:=hB 153 rfl
    try simp (disch:=first|exact dqc|fail) only [go_sem,↓reduceIte,p20,p21] at d10 d20 d21 d24 d153
    have hlt2:((N:Int)<(N:Int))=False:=eq_false (by omega)
    have owv:=oJW.one
    have cw:CleanW W:=⟨by omega,fun w hw=>(hWo w hw).1,fun w hw=>(hWo w hw).2⟩
    have ee:=flt_earn cw (m:=l.length) (k:=k) (n:=M) (by omega)
    rw [← eF1,← eF2] at ee
    have ck1:chkR ⟨12,F1,W⟩=0:=by rw [eF1];exact chkR_iff.2 (cw.rib (by omega))
    have ck2:chkR ⟨12,F2,W⟩=0:=by rw [eF2];exact chkR_iff.2 (cw.rib (by omega))
    have ck3:chkR ⟨12,[],W⟩=0:=chkR_iff.2 cw.nil
    obtain ⟨Y2,eY2⟩:∃ Y2,Y2=J.set (K.length+1) (ribB 12 u2 wv):=⟨_,rfl⟩
    have lY2:Y2.length=J.length:=by rw [eY2,List.length_set]
    have xY2:Ext K Y2:=by rw [eY2];exact xJ.set (by omega)
    have y1:Y2[K.length]?=some (ribB 12 u1 wv):=by rw [eY2,List.getElem?_set_ne (by omega)];exact j1
    have y2:Y2[K.length+1]?=some (ribB 12 u2 wv):=by rw [eY2,List.getElem?_set_self (by omega)]
    have j1':=j1
    have j2':=j2
    unfold ribB at j1' j2'
    have r1Y:Own encI 3 (K.length+2) Y2 u1 F1:=by rw [eY2];exact oJ1.setBox j2'
    have r2Y:Own encI 3 (K.length+2) Y2 u2 F2:=by rw [eY2];exact oJ2.setBox j2'
    have rWY:Own encW 74 (K.length+2) Y2 wv W:=by rw [eY2];exact oJW.setBox j2'
    have rW:=rWY.rows (by omega)
    have hb8:h.length≤Y2.length:=by omega
    obtain ⟨_,Y3,e3,x3',z3,rfl,oz3⟩:=run_Best (base:=h.length) (h:=Y2) (v:=.agg [.int .i64 12,u1,wv]) (R:=⟨12,F1,W⟩) hb8 ⟨u1,wv,rfl,own_ints r1Y sF1,rW⟩ (by simp only;omega)
    have n3:=x3'.len
    obtain ⟨_,Y4,e4,x4',z4,rfl,oz4⟩:=run_Best (base:=h.length) (h:=Y3) (v:=.agg [.int .i64 12,u2,wv]) (R:=⟨12,F2,W⟩) (by omega) ⟨u2,wv,rfl,(own_ints r2Y sF2).ext x3',rW.ext x3'⟩ (by simp only;omega)
    have n4':=x4'.len
    obtain ⟨_,Y5,e5',x5',z5,rfl,oz5⟩:=run_Best (base:=h.length) (h:=Y4) (v:=.agg [.int .i64 12,.slice none 0 0,wv]) (R:=⟨12,[],W⟩) (by omega) ⟨.slice none 0 0,wv,rfl,ints_nil,rW.ext (x3'.trans x4')⟩ (by simp)
    rw [ck1] at e3
    rw [ck2] at e4
    rw [ck3] at e5'
    have y2':=x3'.get y2
    have y1':=(x3'.trans x4').get y1
    have az3:=oz3.one
    have az4:=oz4.one
    have az5:=oz5.one
    have le1:(allE ⟨12,F1,W⟩≤allE ⟨12,F2,W⟩)=True:=eq_true ee.1
    have le2:(allE ⟨12,F2,W⟩≤allE ⟨12,[],W⟩)=True:=eq_true ee.2
    unfold ribB at eY2 y1 y2 y1' y2'
    have hsp:=@Nat.succ_ne_zero;repeat' (first|simp (disch:=first|exact dqc|fail) only [go_sem,↓reduceIte,hsp,d10,d20,d21,d24,d153,d154,p1,p4,p14,p16,p19,p20,p21,p104,hlt2,j1',j2',← eY2,y1,e3,y2',e4,y1',e5',le1,le2,run_awake08]|refine WP_drw ?_|refine cnd_intro (fun hsp=>?_) fun hsp=>?_)
    exact fB rfl (xhK.trans (xY2.trans (x3'.trans (x4'.trans x5'))))
 ·rw [e] at hl;simp at hl
end Go.AM
