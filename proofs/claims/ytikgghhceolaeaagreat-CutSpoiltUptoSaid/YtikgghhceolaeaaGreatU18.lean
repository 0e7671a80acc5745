/-
  Contracts: at which price a want begins to be used (Raise).
-/
import Derived.Test.YtikgghhceolaeaaGreatU17
import Derived.Test.YtikgghhceolaeaaGreatU12
import Derived.KernelRfl
set_option linter.unusedSimpArgs false
set_option linter.unusedVariables false
namespace Go.AM
open Go.Proofs.Tryz
attribute [-go_sem] put_ne put_same
attribute [local go_sem ↓] put_if
theorem run_cloneW {base:Nat} {h:Heap} {v:AVal} {l:List Wnt} (hR:Rows encW h v l) (hs:l.length≤1048576) :
  Ret prog raw base (.fn 118 [] []) [v] h (fun w H=>Ext h H∧OwnE encW 50 h.length H w l∧(l ≠ []→w=.slice (some ⟨h.length,0,0⟩) l.length l.length∧H=h++[rowE encW 50 l 0])):=by
 have hl:=hR.1
 have ov:=hR.one
 refine ret_raw func118 rfl (by kernel_rfl) ?_
 rcases hR.nilEq2 (P:=prog) (t:=33) (e:=50) underlying33 with ⟨rfl,rfl,e⟩|e
 ·have hsp:=@Nat.succ_ne_zero;repeat' (first|simp (disch:=first|exact dqb|fail) only [go_sem,↓reduceIte,hsp,e]|refine WP_drw ?_|refine cnd_intro (fun hsp=>?_) fun hsp=>?_)
  exact ⟨.refl,.inl Own.nil,fun q=>q.elim⟩
 ·have hbe:∀ {lit:Bool},bsA prog lit h 33 0 []=some (.emp,h):=fun {lit}=>bs_emp Fc.el33
  by_cases hn:l=[]
  ·subst hn
   have ha:=fun base=>app_none (base:=base) hR Fc.el33
   have hsp:=@Nat.succ_ne_zero;repeat' (first|simp (disch:=first|exact dqb|fail) only [go_sem,↓reduceIte,hsp,e,hbe,ha]|refine WP_drw ?_|refine cnd_intro (fun hsp=>?_) fun hsp=>?_)
   exact ⟨.refl,.inr ⟨rfl,rfl⟩,fun q=>q.elim⟩
  ·have ha:=fun base=>app_empE (base:=base) hR hn encW_sc (by omega) Fc.el33
   have hsp:=@Nat.succ_ne_zero;repeat' (first|simp (disch:=first|exact dqb|fail) only [go_sem,↓reduceIte,hsp,e,hbe,ha]|refine WP_drw ?_|refine cnd_intro (fun hsp=>?_) fun hsp=>?_)
   exact ⟨.app .refl,.inl (.inr ⟨h.length,0,rfl,get_eq rfl,Nat.le_refl _,List.length_pos_iff.2 hn⟩),fun _=>trivial⟩
def rseE (R:Rib) (k:Int):Int × Int:=if chkR R ≠ 0 then (0,chkR R) else if ¬ (0≤k∧k≤(R.W.length:Int)-1) then (0,1) else match rseL R k.toNat with
 | none=>(0,6)
 | some p=>(p,0)
def wPr (w:Wnt) (p:Int):Wnt:={ w with pr:=p }
theorem prc_set {R:Rib} {k:Nat} {w:Wnt} {p:Int} (hw:R.W[k]?=some w):prcR R k p=⟨R.L,R.F,R.W.set k (wPr w p)⟩:=by
 unfold prcR
 congr 1
 refine List.ext_getElem? fun i=>?_
 rw [List.getElem?_modify,List.getElem?_set]
 by_cases h:k=i
 ·subst h
  rw [if_pos rfl,if_pos (List.getElem?_eq_some_iff.1 hw).1,hw]
  simp [wPr]
 ·rw [if_neg h]
  cases R.W[i]?<;>simp [h]
set_option maxRecDepth 100000 in
set_option maxHeartbeats 4000000 in
theorem run_Raise {base:Nat} {h:Heap} {v:AVal} {R:Rib} {want:Int} (hA:RibAt h v R) (hsm:R.F.length≤1048576) :
  callL prog raw base (.fn 46 [] []) [v,.int .i64 want] h=some (.tuple [.int .i64 (rseE R want).1,.int .i64 (rseE R want).2],h):=by
 have hAe:=fun H (e:Ext h H)=>hA.ext e
 obtain ⟨fv,wv,rfl,hF,hW⟩:=hA
 have o1:=hF.one
 have o2:=hW.one
 obtain ⟨G0,eG0⟩:∃ G0,G0=h++[ribB R.L fv wv]:=⟨_,rfl⟩
 have x0:Ext h G0:=by rw [eG0];exact .app .refl
 have g0:G0[h.length]?=some (ribB R.L fv wv):=by rw [eG0];exact get_eq rfl
 have l0:G0.length=h.length+1:=by rw [eG0];simp
 have hck:=fun base=>run_Check (base:=base) (hAe G0 x0) hsm
 have hw:=fun base=>run_want (base:=base) (L:=R.L) (x:=want) (hW.ext x0) o1
 unfold ribB at eG0 g0
 refine callL_run func46 rfl rfl ?_
 by_cases c0:chkR R=0
 ·rw [c0] at hck
  have hR:=chkR_iff.1 c0
  have hL:=hR.L
  have hnW:=hR.nW
  by_cases c1:0≤want∧want≤(R.W.length:Int)-1
  ·rw [decide_eq_true c1] at hw
   obtain ⟨k,ek⟩:=Int.eq_ofNat_of_zero_le c1.1
   have hkl:k<R.W.length:=by omega
   have hwk:R.W[k]?=some R.W[k]:=List.getElem?_eq_getElem hkl
   generalize R.W[k]=w at hwk
   have hwo:=hR.W w (List.mem_of_getElem? hwk)
   have hpr:=hwo.pr
   have re:rseE R want=match rseL R k with|none=>(0,6)|some p=>(p,0):=by
    unfold rseE;rw [if_neg (by simp [c0]),if_neg (fun q=>q c1),ek,Int.toNat_natCast]
   have rel:rseL R k=rseN R k (101-w.pr).toNat w.pr:=by unfold rseL prcW;rw [hwk]
   obtain ⟨Z,eZ⟩:∃ Z,Z=rseL R k:=⟨_,rfl⟩
   rw [re,← eZ]
   rw [ek] at hw ⊢
   obtain ⟨w2,H2,e2,x2,oW2,hW2⟩:=run_cloneW (base:=h.length) (hW.ext x0) (by omega)
   have hne:R.W ≠ []:=fun q=>by rw [q] at hkl;simp at hkl
   obtain ⟨rfl,eH2⟩:=hW2 hne
   have l2:H2.length=h.length+2:=by rw [eH2];simp [l0]
   have g02:=x2.get g0
   obtain ⟨nw,enw⟩:∃ nw,nw=R.W.length:=⟨_,rfl⟩
   obtain ⟨H3,eH3⟩:∃ H3,H3=H2.set h.length (ribB R.L fv (.slice (some ⟨G0.length,0,0⟩) nw nw)):=⟨_,rfl⟩
   have l3:H3.length=h.length+2:=by rw [eH3,List.length_set,l2]
   have g3:H3[h.length]?=some (ribB R.L fv (.slice (some ⟨G0.length,0,0⟩) nw nw)):=by rw [eH3,List.getElem?_set_self (by omega)]
   have gr3:H3[G0.length]?=some (rowE encW 50 R.W 0):=by rw [eH3,List.getElem?_set_ne (by omega),eH2];exact get_eq rfl
   have x3:Ext h H3:=by rw [eH3];exact (x0.trans x2).set (Nat.le_refl _)
   have iW3:Rows encW H3 (.slice (some ⟨G0.length,0,0⟩) nw nw) R.W:=Rows.own gr3 enw (by omega)
   have a1:=wnt_ad iW3 hkl
   have a2:fieldAddrA prog 50 (elAdr (.slice (some ⟨G0.length,0,0⟩) nw nw) encW.z k 0) 1=some (elAdr (.slice (some ⟨G0.length,0,0⟩) nw nw) encW.z k 1):=elAdr_field (P:=prog) (i:=k) (o:=0) (off:=1) (q:=false) (n:=1) iW3 hkl (by kernel_rfl) (by decide)
   have a3:loadP prog H3 3 (elAdr (.slice (some ⟨G0.length,0,0⟩) nw nw) encW.z k 1)=some (.int .i64 w.pr):=iW3.cell (P:=prog) Fc.ty3 hwk (o:=1) (a:=.int .i64 w.pr) rfl
   rw [← enw] at e2
   unfold ribB at eH3 g3
   have hsp:=@Nat.succ_ne_zero;repeat' (first|simp (disch:=first|exact dqb|fail) only [go_sem,↓reduceIte,hsp,eG0.symm,g0,hck,eq_self,hw,e2,g02,← eH3,g3,a1,a2,a3]|refine WP_drw ?_|refine cnd_intro (fun hsp=>?_) fun hsp=>?_)
   obtain ⟨N,eN⟩:∃ N,N=(101-w.pr).toNat:=⟨_,rfl⟩
   refine WP_count [(7,50)] 0 N (Nat.zero_le _) (fun _ i fr H=>fr 7=.int .i64 (w.pr+(i:Int))∧Ext h H∧h.length+1<H.length∧H[h.length]?=some (ribB R.L fv (.slice (some ⟨G0.length,0,0⟩) nw nw))∧(∃ q,H[G0.length]?=some (rowE encW 50 (R.W.set k (wPr w q)) 0))∧rseN R k (N-i) (w.pr+(i:Int))=Z) ?_ ?_ ?_
   ·refine ⟨by simp (disch:=first|exact dqb|fail) only [go_sem,↓reduceIte];simp,x3,by omega,g3,⟨w.pr,?_⟩,?_⟩
    ·rw [gr3]
     congr 2
     have:R.W.set k (wPr w w.pr)=R.W:=by
      refine List.ext_getElem? fun i=>?_
      rw [List.getElem?_set]
      split
      ·rename_i e;rw [← e,hwk];rfl
      ·rfl
     rw [this]
    ·rw [Nat.sub_zero,eZ,rel,← eN];simp
   ·rintro i fr H hi0 hi hA ⟨r7,xH,lH,gH,⟨q,gq⟩,hz⟩
    have d1:=hA 1 rfl
    have d2:=hA 2 rfl
    have d4:=hA 4 rfl
    have d5:=hA 5 rfl
    try simp (disch:=first|exact dqb|fail) only [go_sem,↓reduceIte] at d1 d2 d4 d5
    obtain ⟨p,ep⟩:∃ p,p=w.pr+(i:Int):=⟨_,rfl⟩
    rw [← ep] at r7 hz
    have hp:0≤p∧p≤100:=by omega
    have hle:(p≤100)=True:=eq_true hp.2
    have hwq:(R.W.set k (wPr w q))[k]?=some (wPr w q):=by rw [List.getElem?_set,if_pos rfl,if_pos hkl]
    have st1:∀ (F:ABlk→Heap),stQ h.length G0.length (some (rowE encW 50 (R.W.set k (wPr w q)) 0)) 0 (k * 5+1) [.int .i64 p] F=some (F (rowE encW 50 (R.W.set k (wPr w p)) 0)):=fun F=>by
     have:=stQ_cellE (E:=encW) (e:=50) (i:=k) (o:=1) (y:=wPr w p) (a:=.int .i64 p) (base:=h.length) (id:=G0.length) (ver:=0) (K:=F) hwq (by decide) rfl rfl (by omega)
     rw [List.set_set] at this;exact this
    obtain ⟨H4,eH4⟩:∃ H4,H4=H.set G0.length (rowE encW 50 (R.W.set k (wPr w p)) 0):=⟨_,rfl⟩
    have l4:H4.length=H.length:=by rw [eH4,List.length_set]
    have x4:Ext h H4:=by rw [eH4];exact xH.set (by omega)
    have g4:H4[h.length]?=some (ribB R.L fv (.slice (some ⟨G0.length,0,0⟩) nw nw)):=by rw [eH4,List.getElem?_set_ne (by omega)];exact gH
    have gr4:H4[G0.length]?=some (rowE encW 50 (R.W.set k (wPr w p)) 0):=by rw [eH4,List.getElem?_set_self (by omega)]
    have ers:=prc_set (p:=p) hwk
    have hRp:=hR.prc (k:=k) hp
    have hA4:RibAt H4 (.agg [.int .i64 R.L,fv,.slice (some ⟨G0.length,0,0⟩) nw nw]) (prcR R k p):=by
     rw [ers]
     exact ⟨fv,_,rfl,hF.ext x4,Rows.own gr4 (by rw [List.length_set];exact enw) (by rw [List.length_set];omega)⟩
    obtain ⟨w5,H5,e5,x5,id,rfl,hid,hD5⟩:=run_worked (base:=h.length) (by omega) hA4 hRp
    have l5:=x5.len
    obtain ⟨u,H6,e6,x6,oU⟩:=run_used (base:=h.length) (by omega) hD5 hRp
    have l6:=x6.len
    obtain ⟨us,eus⟩:∃ us,us=usdL (prcR R k p):=⟨_,rfl⟩
    rw [← eus] at oU
    have hum:∀ y ∈ us,0≤y∧y<6:=fun y hy=>by
     rw [eus] at hy
     have:=usN_b hRp (Nat.le_refl _) ((usdL_mem hRp).1 hy)
     have:=hRp.nW;omega
    have hul:us.length≤6:=by
     have h1:=nodup_len (R:=6) (l:=us) (by rw [eus];exact usdL_rise (R:=prcR R k p)) (fun y hy=>by have:=hum y hy;omega)
     omega
    have hus:Small us:=⟨by omega,fun y hy=>by have:=hum y hy;omega⟩
    have iU:=own_ints oU hus
    have hnu:=lenI iU
    have ouo:=oU.one
    have x46:=x5.trans x6
    have g6:=x46.get g4
    have gr6:=x46.get gr4
    have xh6:=x4.trans x46
    have hrs:rseN R k (N-i) p=if (k:Int) ∈ us then some p else rseN R k (N-(i+1)) (p+1):=by
     rw [show N-i=(N-(i+1))+1 by omega,rseN,← eus]
    rw [hrs] at hz
    unfold ribB at gH g4 g6
    have hsp:=@Nat.succ_ne_zero;repeat' (first|simp (disch:=first|exact dqb|fail) only [go_sem,↓reduceIte,hsp,r7,d1,d2,d4,d5,hle,gH,gq,st1,← eH4,g4,e5,e6,hnu]|refine WP_drw ?_|refine cnd_intro (fun hsp=>?_) fun hsp=>?_)
    refine WP_count [(9,9),(43,50)] 0 us.length (Nat.zero_le _) (fun _ j fr K=>fr 43=.int .i64 (j:Int)∧K=H6∧∀ m,m<j→us.getD m 0 ≠ (k:Int)) ?_ ?_ ?_
    ·exact ⟨by (simp (disch:=first|exact dqb|fail) only [go_sem,↓reduceIte,Int.natCast_zero];first|done|rfl),rfl,fun m hm=>by omega⟩
    ·rintro j fr2 K hj0 hj hA2 ⟨r43,rfl,hno⟩
     have f1:=hA2 1 rfl
     have f2:=hA2 2 rfl
     have f4:=hA2 4 rfl
     have f5:=hA2 5 rfl
     have f7:=hA2 7 rfl
     have f41:=hA2 41 rfl
     have f42:=hA2 42 rfl
     try simp (disch:=first|exact dqb|fail) only [go_sem,↓reduceIte,d1,d2,d4,d5] at f1 f2 f4 f5 f7 f41 f42
     have f7:=hA2 7 rfl
     simp (disch:=first|exact dqb|fail) only [go_sem,↓reduceIte,r7] at f7
     have hlt2:((j:Int)<(us.length:Int))=True:=eq_true (by omega)
     have hl0:=loadI iU hj
     have ha0:=adrI (i:=(j:Int)) (by omega) iU (by omega)
     rw [Int.toNat_natCast] at ha0
     by_cases c3:us.getD j 0=(k:Int)
     ·have t3:(us.getD j 0=(k:Int))=True:=eq_true c3
      have hm:(k:Int) ∈ us:=by rw [← c3];exact getD_mem' hj
      rw [if_pos hm] at hz
      have t4:(p > 100)=False:=eq_false (by omega)
      rw [← hz]
      have hsp:=@Nat.succ_ne_zero;repeat' (first|simp (disch:=first|exact dqb|fail) only [go_sem,↓reduceIte,hsp,r43,f7,f1,f2,f4,f5,f7,f41,f42,d1,d2,d4,d5,hlt2,hl0,ha0,t3,t4]|refine WP_drw ?_|refine cnd_intro (fun hsp=>?_) fun hsp=>?_)
      exact fin_pl rfl rfl xh6
     ·have t3:(us.getD j 0=(k:Int))=False:=eq_false c3
      have hsp:=@Nat.succ_ne_zero;repeat' (first|simp (disch:=first|exact dqb|fail) only [go_sem,↓reduceIte,hsp,r43,f7,f1,f2,f4,f5,f7,f41,f42,d1,d2,d4,d5,hlt2,hl0,ha0,t3]|refine WP_drw ?_|refine cnd_intro (fun hsp=>?_) fun hsp=>?_)
      refine ⟨agq,by omega,fun m hm=>?_⟩
      by_cases em:m=j
      ·rw [em];exact c3
      ·exact hno m (by omega)
    ·rintro fr2 K hA2 ⟨r43,rfl,hno⟩
     have f1:=hA2 1 rfl
     have f2:=hA2 2 rfl
     have f4:=hA2 4 rfl
     have f5:=hA2 5 rfl
     have f7:=hA2 7 rfl
     have f41:=hA2 41 rfl
     have f42:=hA2 42 rfl
     try simp (disch:=first|exact dqb|fail) only [go_sem,↓reduceIte,d1,d2,d4,d5] at f1 f2 f4 f5 f7 f41 f42
     have f7:=hA2 7 rfl
     simp (disch:=first|exact dqb|fail) only [go_sem,↓reduceIte,r7] at f7
     have hlt2:((us.length:Int)<(us.length:Int))=False:=eq_false (by omega)
     have hm:(k:Int) ∉ us:=fun hm=>by
      obtain ⟨m,hm1,hm2⟩:=List.mem_iff_getElem.1 hm
      exact hno m hm1 (by rw [getD_at hm1];exact hm2)
     rw [if_neg hm] at hz
     have hsp:=@Nat.succ_ne_zero;repeat' (first|simp (disch:=first|exact dqb|fail) only [go_sem,↓reduceIte,hsp,r43,f7,f1,f2,f4,f5,f7,f41,f42,d1,d2,d4,d5,hlt2]|refine WP_drw ?_|refine cnd_intro (fun hsp=>?_) fun hsp=>?_)
     refine ⟨agq,by omega,xh6,by omega,g6,⟨p,gr6⟩,?_⟩
     rw [show w.pr+((i+1:Nat):Int)=p+1 by omega];exact hz
   ·rintro fr H hA ⟨r7,xH,lH,gH,⟨q,gq⟩,hz⟩
    have d1:=hA 1 rfl
    have d2:=hA 2 rfl
    have d4:=hA 4 rfl
    have d5:=hA 5 rfl
    try simp (disch:=first|exact dqb|fail) only [go_sem,↓reduceIte] at d1 d2 d4 d5
    rw [Nat.sub_self,rseN] at hz
    rw [show w.pr+(N:Int)=101 by omega] at r7
    have hle:((101:Int)≤100)=False:=eq_false (by omega)
    have t4:((101:Int) > 100)=True:=eq_true (by omega)
    rw [← hz]
    have hsp:=@Nat.succ_ne_zero;repeat' (first|simp (disch:=first|exact dqb|fail) only [go_sem,↓reduceIte,hsp,r7,d1,d2,d4,d5,hle,t4]|refine WP_drw ?_|refine cnd_intro (fun hsp=>?_) fun hsp=>?_)
    exact fin_pl rfl rfl xH
  ·rw [decide_eq_false c1] at hw
   have re:rseE R want=(0,1):=by unfold rseE;rw [if_neg (by simp [c0]),if_pos (fun q=>c1 q)]
   rw [re]
   have hsp:=@Nat.succ_ne_zero;repeat' (first|simp (disch:=first|exact dqb|fail) only [go_sem,↓reduceIte,hsp,eG0.symm,g0,hck,eq_self,hw]|refine WP_drw ?_|refine cnd_intro (fun hsp=>?_) fun hsp=>?_)
   exact fin_pl rfl rfl x0
 ·have t0:(chkR R=0)=False:=eq_false c0
  have re:rseE R want=(0,chkR R):=by unfold rseE;rw [if_pos c0]
  rw [re]
  have hsp:=@Nat.succ_ne_zero;repeat' (first|simp (disch:=first|exact dqb|fail) only [go_sem,↓reduceIte,hsp,eG0.symm,g0,hck,t0]|refine WP_drw ?_|refine cnd_intro (fun hsp=>?_) fun hsp=>?_)
  exact fin_pl rfl rfl x0
end Go.AM
namespace Go.AM
open Go.Proofs.Tryz
attribute [-go_sem] put_ne put_same
attribute [local go_sem ↓] put_if
section
variable {base id ver:Nat} {h:Heap} {m:List Int}
abbrev iB (m:List Int) (ver:Nat):ABlk:=srB m 3 ver
theorem stI {o:Nat} {z:List Int} (hg:h[id]?=some (iB m ver)) (hb:base≤id) (ho:o+z.length≤m.length):storeN base h ⟨id,ver,o⟩ (ints z)=some (h.set id (iB (m.take o++z++m.drop (o+z.length)) ver)):=by
 have e:ints m=ints (m.take o)++ints ((m.drop o).take z.length)++ints (m.drop (o+z.length)):=by
  rw [ints_app,ints_app]
  congr 1
  rw [List.append_assoc,← List.drop_drop,List.take_append_drop,List.take_append_drop]
 have h1:=splice_mid (ints z) (ints (m.take o)) (ints ((m.drop o).take z.length)) (ints (m.drop (o+z.length))) (by simp [ints];omega)
 rw [← e,ints_app,ints_app,show (ints (m.take o)).length=o by simp [ints];omega] at h1
 unfold storeN
 simp only [hg]
 rw [if_pos ⟨trivial,by simp only [ints_length];omega,ints_scalar _,.inl hb⟩,h1]
theorem ldI {o n a b:Nat} (hg:h[id]?=some (iB m ver)) (ho:o+n≤m.length):firstN h 1 n (.slice (some ⟨id,ver,o⟩) a b)=some (ints ((m.drop o).take n)):=by
 simp only [firstN,loadN,cellsAt,hg,Nat.mul_one,if_true]
 rw [if_pos (by simp only [ints_length];omega)]
 simp [ints,List.map_take,List.map_drop]
theorem sl_two {o n k:Nat} {lo hi:Int} (h0:0≤lo) (h1:lo≤hi) (h2:hi≤k):sliceA prog 32 (.slice (some ⟨id,ver,o⟩) n k) (some (.int .i64 lo)) (some (.int .i64 hi)) none=some (.slice (some ⟨id,ver,o+lo.toNat⟩) (hi.toNat-lo.toNat) (k-lo.toNat)):=by
 simp only [sliceA,Fc.ar32,Fc.el32,optB,boundI (show 0≤hi by omega) h2,boundI h0 (show lo≤(hi.toNat:Int) by omega)]
 simp [ARef.add]
theorem sl_three {o n k:Nat} {lo hi mx:Int} (h0:0≤lo) (h1:lo≤hi) (h2:hi≤mx) (h3:mx≤k):∃ v,sliceA prog 32 (.slice (some ⟨id,ver,o⟩) n k) (some (.int .i64 lo)) (some (.int .i64 hi)) (some (.int .i64 mx))=some v:=by
 simp only [sliceA,Fc.ar32,Fc.el32,optB,boundI (show 0≤mx by omega) h3,boundI (show 0≤hi by omega) (show hi≤(mx.toNat:Int) by omega),boundI h0 (show lo≤(hi.toNat:Int) by omega)]
 exact ⟨_,rfl⟩
theorem er_take {l:List Int} {i:Nat}:l.eraseIdx i=l.take i++l.drop (i+1):=List.eraseIdx_eq_take_drop_succ l i
theorem run_delete {l:List Int} {i:Nat} (hg:h[id]?=some (iB l ver)) (hb:base≤id) (hi:i<l.length) (hl:l.length≤1000) :
  Ret prog raw base (.fn 121 [] []) [.slice (some ⟨id,ver,0⟩) l.length l.length,.int .i64 (i:Int),.int .i64 ((i:Int)+1)] h (fun w H=>w=.slice (some ⟨id,ver,0⟩) (l.length-1) l.length∧H=h.set id (iB (l.eraseIdx i++[0]) ver)):=by
 obtain ⟨n,en⟩:∃ n,l.length=n:=⟨_,rfl⟩
 rw [en] at hi hl ⊢
 have hid:=lt_of_get hg
 obtain ⟨v3,e3⟩:=sl_three (id:=id) (ver:=ver) (o:=0) (n:=n) (k:=n) (lo:=(i:Int)) (hi:=(i:Int)+1) (mx:=(n:Int)) (by omega) (by omega) (by omega) (by omega)
 have t1:((i:Int)=(i:Int)+1)=False:=eq_false (by omega)
 have s1:=sl_to (id:=id) (ver:=ver) (o:=0) (n:=n) (k:=n) (hi:=(i:Int)) (by omega) (by omega)
 have s2:=sl_from (id:=id) (ver:=ver) (o:=0) (n:=n) (k:=n) (lo:=(i:Int)+1) (by omega) (by omega) (by omega)
 rw [Int.toNat_natCast] at s1
 rw [show ((i:Int)+1).toNat=i+1 by omega,Nat.zero_add] at s2
 obtain ⟨m,em⟩:∃ m,m=l.eraseIdx i++l.drop (n-1):=⟨_,rfl⟩
 have hel:(l.eraseIdx i).length=n-1:=by rw [List.length_eraseIdx,if_pos (by omega)];omega
 have hml:m.length=n:=by rw [em,List.length_append,hel,List.length_drop];omega
 have hap:appendA prog base h 32 (.slice (some ⟨id,ver,0⟩) i n) (.slice (some ⟨id,ver,i+1⟩) (n-(i+1)) (n-(i+1)))=some (.slice (some ⟨id,ver,0⟩) (n-1) n,h.set id (iB m ver)):=by
  simp only [appendA,Fc.el32,lenA,ldI (o:=i+1) (n:=n-(i+1)) hg (by omega),ints_scalar,if_true]
  rw [if_pos (by omega)]
  have:(ARef.mk id ver 0).add (i * 1)=⟨id,ver,i⟩:=by simp [ARef.add]
  rw [this,List.take_of_length_le (by simp;omega),stI hg hb (by simp;omega)]
  simp only [List.length_drop,en]
  rw [show i+(n-(i+1))=n-1 by omega,← er_take,em]
 obtain ⟨G,eG⟩:∃ G,G=h.set id (iB m ver):=⟨_,rfl⟩
 rw [← eG] at hap
 have gG:G[id]?=some (iB m ver):=by rw [eG,List.getElem?_set_self hid]
 have s3:=sl_two (id:=id) (ver:=ver) (o:=0) (n:=n-1) (k:=n) (lo:=((n-1:Nat):Int)) (hi:=(n:Int)) (by omega) (by omega) (by omega)
 rw [Int.toNat_natCast,Int.toNat_natCast,Nat.zero_add,show n-(n-1)=1 by omega] at s3
 have hcl:clearA prog base G 32 (.slice (some ⟨id,ver,n-1⟩) 1 1)=some (.tuple [],G.set id (iB (l.eraseIdx i++[0]) ver)):=by
  have hs:=stI (z:=[0]) (o:=n-1) gG hb (by simp;omega)
  have hr:repCells [AVal.int .i64 0] (0+1)=ints [0]:=rfl
  have e:m.take (n-1)++[0]++m.drop (n-1+[(0:Int)].length)=l.eraseIdx i++[0]:=by
   rw [em,List.take_left' hel,List.drop_of_length_le (by simp [hel];omega),List.append_nil]
  rw [e] at hs
  simp only [clearA,Fc.el32,hr,hs]
 refine ret_raw func121 rfl (by kernel_rfl) ?_
 have hsp:=@Nat.succ_ne_zero;repeat' (first|simp (disch:=first|exact dqb|fail) only [go_sem,↓reduceIte,hsp,e3,t1,s1,s2,hap,s3,hcl]|refine WP_drw ?_|refine cnd_intro (fun hsp=>?_) fun hsp=>?_)
 rw [eG,List.set_set]
end
theorem low_is {F:List Int} {u:Int} {i:Nat} (hi:i≤F.length) (h1:∀ y ∈ F.take i,y<u) (h2:∀ y ∈ F.drop i,u≤y):(lowL F u).length=i:=by
 have e:lowL F u=F.take i:=by
  unfold lowL
  conv=>lhs;rw [← List.take_append_drop i F]
  rw [List.takeWhile_append_of_pos (fun y hy=>decide_eq_true (h1 y hy))]
  cases hd:F.drop i with
  | nil=>simp
  | cons z zs =>
   have:=h2 z (by rw [hd];simp)
   rw [List.takeWhile_cons,decide_eq_false (by omega)]
   simp
 rw [e,List.length_take];omega
theorem take_lt {F:List Int} (hs:F.Pairwise (·<·)) {m:Nat} (hm:m<F.length):(∀ y ∈ F.take (m+1),y≤F.getD m 0)∧∀ y ∈ F.drop m,F.getD m 0≤y:=by
 have h:=List.pairwise_iff_getElem.1 hs
 rw [getD_at hm]
 constructor
 ·intro y hy
  obtain ⟨i,hi,rfl⟩:=List.mem_iff_getElem.1 hy
  rw [List.length_take] at hi
  rw [List.getElem_take]
  by_cases e:i=m
  ·subst e;exact Int.le_refl _
  ·exact Int.le_of_lt (h i m (by omega) hm (by omega))
 ·intro y hy
  obtain ⟨i,hi,rfl⟩:=List.mem_iff_getElem.1 hy
  rw [List.length_drop] at hi
  rw [List.getElem_drop]
  by_cases e:i=0
  ·subst e;exact Int.le_refl _
  ·exact Int.le_of_lt (h m (m+i) hm (by omega) (by omega))
theorem run_snan {base:Nat} {h:Heap} {x:Int}:callL prog raw base (.fn 150 [] []) [.int .i64 x] h=some (.bool false,h):=by
 have t1:(x=x)=True:=eq_true rfl
 refine callL_run func150 rfl rfl ?_
 have hsp:=@Nat.succ_ne_zero;repeat' (first|simp (disch:=first|exact dqb|fail) only [go_sem,↓reduceIte,hsp,t1,decide_not]|refine WP_drw ?_|refine cnd_intro (fun hsp=>?_) fun hsp=>?_)
 exact fB rfl
attribute [-go_sem] bin_shr
theorem run_bsearch {base:Nat} {h:Heap} {v:AVal} {F:List Int} {u:Int} (hI:Ints h v F) (hs:F.Pairwise (·<·)) (hl:F.length≤1000) :
  callL prog raw base (.fn 119 [] []) [v,.int .i64 u] h=some (.tuple [.int .i64 ((lowL F u).length:Int),.bool (decide (u ∈ F))],h):=by
 have hn:=lenI hI
 have o1:=hI.one
 refine callL_run func119 rfl rfl ?_
 have hsp:=@Nat.succ_ne_zero;repeat' (first|simp (disch:=first|exact dqb|fail) only [go_sem,↓reduceIte,hsp,hn]|refine WP_drw ?_|refine cnd_intro (fun hsp=>?_) fun hsp=>?_)
 refine WP_iter [(7,30)] (fun _ (s:Nat × Nat) fr H=>fr 7=.int .i64 (s.1:Int)∧fr 8=.int .i64 (s.2:Int)∧H=h∧s.1≤s.2∧s.2≤F.length∧(∀ y ∈ F.take s.1,y<u)∧(∀ y ∈ F.drop s.2,u≤y)) (fun s=>s.2-s.1) (0,F.length) ?_ ?_
 ·exact ⟨by (simp (disch:=first|exact dqb|fail) only [go_sem,↓reduceIte,Int.natCast_zero];first|done|rfl),by simp (disch:=first|exact dqb|fail) only [go_sem,↓reduceIte],rfl,Nat.zero_le _,Nat.le_refl _,by simp,by simp⟩
 ·rintro ⟨i,j⟩ fr H hA ⟨r7,r8,rfl,hij,hj,h1,h2⟩
  have p0:=hA 0 rfl
  have p1:=hA 1 rfl
  have p4:=hA 4 rfl
  have p5:=hA 5 rfl
  have p6:=hA 6 rfl
  try simp (disch:=first|exact dqb|fail) only [go_sem,↓reduceIte] at p0 p1 p4 p5 p6
  dsimp only at r7 r8 hij hj h1 h2
  by_cases c:i<j
  ·have hlt:((i:Int)<(j:Int))=True:=eq_true (by omega)
   obtain ⟨m,em⟩:∃ m,m=(i+j) / 2:=⟨_,rfl⟩
   have hm:m<F.length:=by omega
   have ad:((i:Int)+(j:Int))=((i+j:Nat):Int):=by omega
   have c1:convA prog 163 3 (.int .i64 ((i+j:Nat):Int))=some (.int .u64 ((i+j:Nat):Int)):=by
    simp only [convA,underlying3,Fc.ik163,wrapU]
    rw [Nat.mod_eq_of_lt (by omega)]
   have c2:binA prog .shr 163 (.int .u64 ((i+j:Nat):Int)) (.int .u64 1)=some (.int .u64 (m:Int)):=by
    have:=shrU (t:=163) (a:=i+j) (b:=1) (by omega)
    rw [show (i+j) / 2 ^ 1=m by rw [em]] at this
    exact this
   have c3:convA prog 3 163 (.int .u64 (m:Int))=some (.int .i64 (m:Int)):=by
    simp only [convA,underlying163,Fc.ik3]
    rw [wrap64 (by omega) (by omega)]
   have hl0:=loadI hI hm
   have ha0:=adrI (i:=(m:Int)) (by omega) hI (by omega)
   rw [Int.toNat_natCast] at ha0
   obtain ⟨q1,q2⟩:=take_lt hs hm
   by_cases c4:F.getD m 0<u
   ·have t4:(F.getD m 0<u)=True:=eq_true c4
    have hsp:=@Nat.succ_ne_zero;repeat' (first|simp (disch:=first|exact dqb|fail) only [go_sem,↓reduceIte,hsp,r7,r8,p0,p1,p4,p5,p6,hlt,ad,c1,c2,c3,hl0,ha0,t4]|refine WP_drw ?_|refine cnd_intro (fun hsp=>?_) fun hsp=>?_)
    exact ⟨agq,(m+1,j),⟨by simp only;congr 1,rfl,by simp only;omega,hj,fun y hy=>by have:=q1 y hy;omega,h2⟩,by simp only;omega⟩
   ·have t4:(F.getD m 0<u)=False:=eq_false c4
    have hsp:=@Nat.succ_ne_zero;repeat' (first|simp (disch:=first|exact dqb|fail) only [go_sem,↓reduceIte,hsp,r7,r8,p0,p1,p4,p5,p6,hlt,ad,c1,c2,c3,hl0,ha0,t4]|refine WP_drw ?_|refine cnd_intro (fun hsp=>?_) fun hsp=>?_)
    exact ⟨agq,(i,m),⟨rfl,rfl,by simp only;omega,by simp only;omega,h1,fun y hy=>by have:=q2 y hy;omega⟩,by simp only;omega⟩
  ·have hlt:((i:Int)<(j:Int))=False:=eq_false (by omega)
   obtain rfl:i=j:=by omega
   rw [low_is hj h1 h2]
   by_cases c5:i<F.length
   ·have t5:((i:Int)<(F.length:Int))=True:=eq_true (by omega)
    have hl0:=loadI hI c5
    have ha0:=adrI (i:=(i:Int)) (by omega) hI (by omega)
    rw [Int.toNat_natCast] at ha0
    by_cases c6:F.getD i 0=u
    ·have t6:(F.getD i 0=u)=True:=eq_true c6
     have hm:u ∈ F:=by rw [← c6];exact getD_mem' c5
     rw [decide_eq_true hm]
     have hsp:=@Nat.succ_ne_zero;repeat' (first|simp (disch:=first|exact dqb|fail) only [go_sem,↓reduceIte,hsp,r7,r8,p0,p1,p4,p5,p6,hlt,t5,hl0,ha0,t6]|refine WP_drw ?_|refine cnd_intro (fun hsp=>?_) fun hsp=>?_)
     exact compact_plain' rfl
    ·have t6:(F.getD i 0=u)=False:=eq_false c6
     have hm:u ∉ F:=fun hm=>by
      rw [← List.take_append_drop i F] at hm
      rcases List.mem_append.1 hm with q|q
      ·have:=h1 u q;omega
      ·have h7:=h2 _ (show F.getD i 0 ∈ F.drop i by rw [List.drop_eq_getElem_cons c5,getD_at c5];exact List.mem_cons_self)
       have h8:=(take_lt hs c5).2 u q
       omega
     rw [decide_eq_false hm]
     have hsp:=@Nat.succ_ne_zero;repeat' (first|simp (disch:=first|exact dqb|fail) only [go_sem,↓reduceIte,hsp,r7,r8,p0,p1,p4,p5,p6,hlt,t5,hl0,ha0,t6,run_snan]|refine WP_drw ?_|refine cnd_intro (fun hsp=>?_) fun hsp=>?_)
     exact compact_plain' rfl
   ·have t5:((i:Int)<(F.length:Int))=False:=eq_false (by omega)
    have hm:u ∉ F:=fun hm=>by
     have:=h1 u (by rw [List.take_of_length_le (by omega)];exact hm);omega
    rw [decide_eq_false hm]
    have hsp:=@Nat.succ_ne_zero;repeat' (first|simp (disch:=first|exact dqb|fail) only [go_sem,↓reduceIte,hsp,r7,r8,p0,p1,p4,p5,p6,hlt,t5]|refine WP_drw ?_|refine cnd_intro (fun hsp=>?_) fun hsp=>?_)
    exact compact_plain' rfl
end Go.AM
namespace Go.AM
open Go.Proofs.Tryz
attribute [-go_sem] put_ne put_same
attribute [local go_sem ↓] put_if
theorem run_allR {base:Nat} {h:Heap} {v:AVal} {R:Rib} (hA:RibAt h v R) (hR:RibOk R):callL prog raw base (.fn 120 [] []) [v] h=some (.int .i64 (valD R 0),h):=by
 have hAe:=fun H (e:Ext h H)=>hA.ext e
 obtain ⟨fv,wv,rfl,hF,hW⟩:=hA
 have o1:=hF.one
 have o2:=hW.one
 obtain ⟨G0,eG0⟩:∃ G0,G0=h++[ribB R.L fv wv]:=⟨_,rfl⟩
 have x0:Ext h G0:=by rw [eG0];exact .app .refl
 have g0:G0[h.length]?=some (ribB R.L fv wv):=by rw [eG0];exact get_eq rfl
 obtain ⟨w1,H1,e1,x1,id,rfl,hid,hD⟩:=run_worked (base:=h.length) x0.len (hAe G0 x0) hR
 have hm:=fun base=>run_made (base:=base) hD hR
 have ix:indexA prog 106 (.agg (ints (mdS R 0))) (.int .i64 0)=some (.int .i64 (valD R 0)):=by
  simp only [indexA,Fc.ar106]
  rw [if_pos (by omega)]
  simp only [partQ,Bool.false_eq_true,if_false]
  show (ints (mdS R 0))[0]?=_
  rw [ints_get (by rw [mdS_len];omega),mdS_at (by omega) (Nat.zero_le _)]
 unfold ribB at eG0 g0
 refine callL_run func120 rfl rfl ?_
 have hsp:=@Nat.succ_ne_zero;repeat' (first|simp (disch:=first|exact dqb|fail) only [go_sem,↓reduceIte,hsp,← eG0,g0,e1,hm,ix]|refine WP_drw ?_|refine cnd_intro (fun hsp=>?_) fun hsp=>?_)
 exact fin_pl rfl rfl (x0.trans x1)
theorem cpI {base id a n k:Nat} {h:Heap} {l s:List Int} {x:AVal} (hg:h[id]?=some (rowB l 0)) (hx:Ints h x s) (hb:base≤id) (h1:a+s.length≤l.length) (hn:s.length≤n) :
  copyA prog base h 32 (.slice (some ⟨id,0,a⟩) n k) x=some (.int .i64 (s.length:Int),h.set id (rowB (l.take a++s++l.drop (a+s.length)) 0)):=by
 have eR:∀ l:List Int,rowB l 0=rowE encI 3 l 0:=fun l=>by rw [rowE,flat_encI];rfl
 have:=cpR (P:=prog) (E:=encI) (e:=3) (base:=base) (t:=32) (a:=a) (n:=n) (k:=k) (by rw [← eR];exact hg) hx.rows encI_sc Fc.el32 hb h1 hn
 rw [← eR,show a * encI.z=a from Nat.mul_one a] at this
 exact this
def dmgE (R:Rib) (u:Int):Int × Int:=if chkR R ≠ 0 then (0,chkR R) else dmgL R u
def menE (R:Rib) (u:Int):Int × Int:=if chkR R ≠ 0 then (0,chkR R) else menL R u
set_option maxRecDepth 100000 in
set_option maxHeartbeats 4000000 in
theorem run_Damage {base:Nat} {h:Heap} {v:AVal} {R:Rib} {u:Int} (hA:RibAt h v R) (hsm:R.F.length≤1048576) (hu64:-9223372036854775808≤u∧u<9223372036854775808) :
  callL prog raw base (.fn 47 [] []) [v,.int .i64 u] h=some (.tuple [.int .i64 (dmgE R u).1,.int .i64 (dmgE R u).2],h):=by
 have hAe:=fun H (e:Ext h H)=>hA.ext e
 obtain ⟨fv,wv,rfl,hF,hW⟩:=hA
 have o1:=hF.one
 have o2:=hW.one
 obtain ⟨G0,eG0⟩:∃ G0,G0=h++[ribB R.L fv wv]:=⟨_,rfl⟩
 have x0:Ext h G0:=by rw [eG0];exact .app .refl
 have g0:G0[h.length]?=some (ribB R.L fv wv):=by rw [eG0];exact get_eq rfl
 have l0:G0.length=h.length+1:=by rw [eG0];simp
 have hck:=fun base=>run_Check (base:=base) (hAe G0 x0) hsm
 unfold ribB at eG0 g0
 refine callL_run func47 rfl rfl ?_
 by_cases c0:chkR R=0
 ·rw [c0] at hck
  have hR:=chkR_iff.1 c0
  have hL:=hR.L
  have hnF:=hR.nF
  have iF:=hF.ext x0
  have hn:=lenI iF
  have hbs:=fun base=>run_bsearch (base:=base) (u:=u) iF hR.s (by omega)
  obtain ⟨at_,eat⟩:∃ a,a=(lowL R.F u).length:=⟨_,rfl⟩
  rw [← eat] at hbs
  have hatl:at_≤R.F.length:=by rw [eat];exact low_le
  have hun:=fun base=>run_unit (base:=base) (h:=G0) (x:=u) (show -100000≤R.L∧R.L≤100000 by omega) o1 o2
  have re:dmgE R u=dmgL R u:=by unfold dmgE;rw [if_neg (by simp [c0])]
  rw [re]
  by_cases c1:0≤u∧u≤R.L-1
  ·rw [decide_eq_true c1] at hun
   by_cases c2:u ∈ R.F
   ·rw [decide_eq_true c2] at hbs
    have r:dmgL R u=(0,5):=by unfold dmgL;rw [if_neg (fun q=>q c1),if_pos c2]
    rw [r]
    have hsp:=@Nat.succ_ne_zero;repeat' (first|simp (disch:=first|exact dqb|fail) only [go_sem,↓reduceIte,hsp,eG0.symm,g0,hck,eq_self,hbs,hun]|refine WP_drw ?_|refine cnd_intro (fun hsp=>?_) fun hsp=>?_)
    exact fin_pl rfl rfl x0
   ·rw [decide_eq_false c2] at hbs
    by_cases c3:(R.F.length:Int)=12
    ·have t3:((R.F.length:Int)=12)=True:=eq_true c3
     have r:dmgL R u=(0,9):=by unfold dmgL;rw [if_neg (fun q=>q c1),if_neg c2,if_pos c3]
     rw [r]
     have hsp:=@Nat.succ_ne_zero;repeat' (first|simp (disch:=first|exact dqb|fail) only [go_sem,↓reduceIte,hsp,eG0.symm,g0,hck,eq_self,hbs,hun,hn,t3]|refine WP_drw ?_|refine cnd_intro (fun hsp=>?_) fun hsp=>?_)
     exact fin_pl rfl rfl x0
    ·have t3:((R.F.length:Int)=12)=False:=eq_false c3
     have r:dmgL R u=(valD R 0-valD (addR R u) 0,0):=by unfold dmgL;rw [if_neg (fun q=>q c1),if_neg c2,if_neg c3]
     rw [r]
     have hRa:=hR.add c1 c2 (by omega)
     obtain ⟨n,en⟩:∃ n,n=R.F.length+1:=⟨_,rfl⟩
     have en1:(R.F.length:Int)+1=(n:Int):=by omega
     obtain ⟨H1,eH1⟩:∃ H1,H1=G0++[ribB R.L fv wv]:=⟨_,rfl⟩
     have x1:Ext G0 H1:=by rw [eH1];exact .app .refl
     have l1:H1.length=h.length+2:=by rw [eH1];simp [l0]
     have g01:=x1.get g0
     have g11:H1[G0.length]?=some (ribB R.L fv wv):=by rw [eH1];exact get_eq rfl
     have hn1:=lenI (iF.ext x1)
     have mk:=mkI (H:=H1) (n:=n) (by omega) (by omega)
     obtain ⟨H2,eH2⟩:∃ H2,H2=H1++[rowB (lst (fun _=>0) n) 0]:=⟨_,rfl⟩
     rw [← eH2] at mk
     have x2:Ext H1 H2:=by rw [eH2];exact .app .refl
     have l2:H2.length=h.length+3:=by rw [eH2];simp [l1]
     have g12:=x2.get g11
     obtain ⟨id,eid⟩:∃ id,id=H1.length:=⟨_,rfl⟩
     rw [← eid] at mk
     obtain ⟨H3,eH3⟩:∃ H3,H3=H2.set G0.length (ribB R.L (.slice (some ⟨id,0,0⟩) n n) wv):=⟨_,rfl⟩
     have l3:H3.length=h.length+3:=by rw [eH3,List.length_set,l2]
     have x3:Ext G0 H3:=by rw [eH3];exact (x1.trans x2).set (Nat.le_refl _)
     have g03:=x3.get g0
     have g13:H3[G0.length]?=some (ribB R.L (.slice (some ⟨id,0,0⟩) n n) wv):=by rw [eH3,List.getElem?_set_self (by omega)]
     have g23:H3[id]?=some (rowB (lst (fun _=>0) n) 0):=by rw [eH3,List.getElem?_set_ne (by omega),eH2,eid];exact get_eq rfl
     have iF3:=iF.ext x3
     have sl1:=sl_hi (P:=prog) (t:=32) Fc.el32 Fc.ar32 (n:=(at_:Int)) (by omega) iF3 (by omega)
     rw [Int.toNat_natCast] at sl1
     have iA:=iF3.slc (lo:=0) (hi:=at_) (by omega) (by omega)
     rw [List.drop_zero] at iA
     have hlA:(R.F.take at_).length=at_:=by rw [List.length_take];omega
     have cp1:=cpI (base:=h.length) (a:=0) (n:=n) (k:=n) g23 iA (by omega) (by rw [lst_len,hlA];omega) (by rw [hlA];omega)
     rw [List.take_zero,List.nil_append,Nat.zero_add,hlA] at cp1
     obtain ⟨m1,em1⟩:∃ m1,m1=R.F.take at_++(lst (fun _=>0) n).drop at_:=⟨_,rfl⟩
     rw [← em1] at cp1
     have lm1:m1.length=n:=by rw [em1,List.length_append,hlA,List.length_drop,lst_len];omega
     obtain ⟨H4,eH4⟩:∃ H4,H4=H3.set id (rowB m1 0):=⟨_,rfl⟩
     rw [← eH4] at cp1
     have l4:H4.length=h.length+3:=by rw [eH4,List.length_set,l3]
     have g14:H4[G0.length]?=some (ribB R.L (.slice (some ⟨id,0,0⟩) n n) wv):=by rw [eH4,List.getElem?_set_ne (by omega)];exact g13
     have g24:H4[id]?=some (rowB m1 0):=by rw [eH4,List.getElem?_set_self (by omega)]
     have x4:Ext G0 H4:=by rw [eH4];exact x3.set (by omega)
     have sm1:Small m1:=by
      refine ⟨by omega,fun y hy=>?_⟩
      rw [em1] at hy
      rcases List.mem_append.1 hy with q|q
      ·exact hF.1.2 y (List.mem_of_mem_take q)
      ·have:=List.mem_of_mem_drop q
       unfold lst at this
       obtain ⟨_,_,rfl⟩:=List.mem_map.1 this
       omega
     have iM1:=ints_rowB g24 sm1 lm1.symm
     obtain ⟨m2,em2⟩:∃ m2,m2=m1.set at_ u:=⟨_,rfl⟩
     have lm2:m2.length=n:=by rw [em2,List.length_set,lm1]
     have st1:∀ (F:ABlk→Heap),stQ h.length id (some (rowB m1 0)) 0 at_ [.int .i64 u] F=some (F (rowB m2 0)):=fun F=>by rw [stQ_row (by omega),em2]
     obtain ⟨H5,eH5⟩:∃ H5,H5=H4.set id (rowB m2 0):=⟨_,rfl⟩
     have l5:H5.length=h.length+3:=by rw [eH5,List.length_set,l4]
     have g15:H5[G0.length]?=some (ribB R.L (.slice (some ⟨id,0,0⟩) n n) wv):=by rw [eH5,List.getElem?_set_ne (by omega)];exact g14
     have g25:H5[id]?=some (rowB m2 0):=by rw [eH5,List.getElem?_set_self (by omega)]
     have x5:Ext G0 H5:=by rw [eH5];exact x4.set (by omega)
     have g05:=x5.get g0
     have iF5:=iF.ext x5
     have ea1:((at_:Int)+1)=((at_+1:Nat):Int):=by omega
     have sl2:=sl_from (id:=id) (ver:=0) (o:=0) (n:=n) (k:=n) (lo:=((at_+1:Nat):Int)) (by omega) (by omega) (by omega)
     rw [Int.toNat_natCast,Nat.zero_add] at sl2
     have sl3:=sl_lo (P:=prog) (t:=32) Fc.el32 Fc.ar32 (m:=(at_:Int)) (by omega) iF5 (by omega)
     rw [Int.toNat_natCast] at sl3
     have iB:=iF5.slc (lo:=at_) (hi:=R.F.length) (by omega) (by omega)
     rw [List.take_of_length_le (Nat.le_refl _)] at iB
     have hlB:(R.F.drop at_).length=n-(at_+1):=by rw [List.length_drop];omega
     have cp2:=cpI (base:=h.length) (a:=at_+1) (n:=n-(at_+1)) (k:=n-(at_+1)) g25 iB (by omega) (by rw [lm2,hlB];omega) (by rw [hlB];omega)
     have emF:m2.take (at_+1)++R.F.drop at_++m2.drop (at_+1+(R.F.drop at_).length)=insL R.F u:=by
      have hm2:m2.take (at_+1)=R.F.take at_++[u]:=by
       rw [em2,List.take_add_one,List.getElem?_set,if_pos rfl,if_pos (by omega),List.take_set_of_le (by omega),em1,List.take_left' hlA];rfl
      rw [hm2,List.drop_of_length_le (i:=at_+1+(R.F.drop at_).length) (by rw [lm2,hlB];omega),List.append_nil]
      unfold insL
      rw [eat,← low_take]
      simp
     rw [emF] at cp2
     obtain ⟨H6,eH6⟩:∃ H6,H6=H5.set id (rowB (insL R.F u) 0):=⟨_,rfl⟩
     rw [← eH6] at cp2
     have l6:H6.length=h.length+3:=by rw [eH6,List.length_set,l5]
     have x6:Ext G0 H6:=by rw [eH6];exact x5.set (by omega)
     have g06:=x6.get g0
     have g16:H6[G0.length]?=some (ribB R.L (.slice (some ⟨id,0,0⟩) n n) wv):=by rw [eH6,List.getElem?_set_ne (by omega)];exact g15
     have g26:H6[id]?=some (rowB (insL R.F u) 0):=by rw [eH6,List.getElem?_set_self (by omega)]
     have hAa:RibAt H6 (.agg [.int .i64 R.L,.slice (some ⟨id,0,0⟩) n n,wv]) (addR R u):=by
      refine ⟨_,_,rfl,ints_rowB g26 ⟨by simp only [addR,insL_len];omega,fun y hy=>?_⟩ (by simp only [addR,insL_len];omega),hW.ext (x0.trans x6)⟩
      have:=hRa.F y hy
      have hLa:(addR R u).L=R.L:=rfl
      omega
     have q1:=fun base=>run_allR (base:=base) (hAe H6 (x0.trans x6)) hR
     have q2:=fun base=>run_allR (base:=base) hAa hRa
     have v1:=valD_bd hR (x:=0)
     have v2:=valD_bd hRa (x:=0)
     have sA:One (slcV fv 0 at_):=slcV_one iF3
     have sB:One (slcV fv at_ R.F.length):=slcV_one iF5
     unfold ribB at eH1 g11 g12 eH3 g13 g14 g15 g16
     have hsp:=@Nat.succ_ne_zero;repeat' (first|simp (disch:=first|exact dqb|fail) only [go_sem,↓reduceIte,hsp,eG0.symm,g0,hck,eq_self,hbs,hun,hn,t3,← eH1,g01,hn1,en1,mk,g12,← eH3,g13,g03,sl1,cp1,g14,g24,st1,← eH5,g15,g05,ea1,sl2,sl3,cp2,g06,g16,q1,q2]|refine WP_drw ?_|refine cnd_intro (fun hsp=>?_) fun hsp=>?_)
     exact fin_pl rfl rfl (x0.trans x6)
  ·rw [decide_eq_false c1] at hun
   have r:dmgL R u=(0,1):=by unfold dmgL;rw [if_pos (fun q=>c1 q)]
   rw [r]
   have hsp:=@Nat.succ_ne_zero;repeat' (first|simp (disch:=first|exact dqb|fail) only [go_sem,↓reduceIte,hsp,eG0.symm,g0,hck,eq_self,hbs,hun]|refine WP_drw ?_|refine cnd_intro (fun hsp=>?_) fun hsp=>?_)
   exact fin_pl rfl rfl x0
 ·have t0:(chkR R=0)=False:=eq_false c0
  have re:dmgE R u=(0,chkR R):=by unfold dmgE;rw [if_pos c0]
  rw [re]
  have hsp:=@Nat.succ_ne_zero;repeat' (first|simp (disch:=first|exact dqb|fail) only [go_sem,↓reduceIte,hsp,eG0.symm,g0,hck,t0]|refine WP_drw ?_|refine cnd_intro (fun hsp=>?_) fun hsp=>?_)
  exact fin_pl rfl rfl x0
set_option maxRecDepth 100000 in
set_option maxHeartbeats 4000000 in
theorem run_Mended {base:Nat} {h:Heap} {v:AVal} {R:Rib} {u:Int} (hA:RibAt h v R) (hsm:R.F.length≤1048576) :
  callL prog raw base (.fn 48 [] []) [v,.int .i64 u] h=some (.tuple [.int .i64 (menE R u).1,.int .i64 (menE R u).2],h):=by
 have hAe:=fun H (e:Ext h H)=>hA.ext e
 obtain ⟨fv,wv,rfl,hF,hW⟩:=hA
 have o1:=hF.one
 have o2:=hW.one
 obtain ⟨G0,eG0⟩:∃ G0,G0=h++[ribB R.L fv wv]:=⟨_,rfl⟩
 have x0:Ext h G0:=by rw [eG0];exact .app .refl
 have g0:G0[h.length]?=some (ribB R.L fv wv):=by rw [eG0];exact get_eq rfl
 have l0:G0.length=h.length+1:=by rw [eG0];simp
 have hck:=fun base=>run_Check (base:=base) (hAe G0 x0) hsm
 unfold ribB at eG0 g0
 refine callL_run func48 rfl rfl ?_
 by_cases c0:chkR R=0
 ·rw [c0] at hck
  have hR:=chkR_iff.1 c0
  have hL:=hR.L
  have hnF:=hR.nF
  have iF:=hF.ext x0
  have hn:=lenI iF
  have hbs:=fun base=>run_bsearch (base:=base) (u:=u) iF hR.s (by omega)
  obtain ⟨at_,eat⟩:∃ a,a=(lowL R.F u).length:=⟨_,rfl⟩
  rw [← eat] at hbs
  have hatl:at_≤R.F.length:=by rw [eat];exact low_le
  have hun:=fun base=>run_unit (base:=base) (h:=G0) (x:=u) (show -100000≤R.L∧R.L≤100000 by omega) o1 o2
  have re:menE R u=menL R u:=by unfold menE;rw [if_neg (by simp [c0])]
  rw [re]
  by_cases c1:0≤u∧u≤R.L-1
  ·rw [decide_eq_true c1] at hun
   by_cases c2:u ∈ R.F
   ·rw [decide_eq_true c2] at hbs
    have r:menL R u=(valD (delR R u) 0-valD R 0,0):=by unfold menL;rw [if_neg (fun q=>q c1),if_pos c2]
    rw [r]
    have hRd:=hR.del c2
    have hfat:=low_at hR.s c2
    rw [← eat] at hfat
    have hatl2:=(List.getElem?_eq_some_iff.1 hfat).1
    have hne:R.F ≠ []:=fun q=>by rw [q] at c2;cases c2
    obtain ⟨n,en⟩:∃ n,n=R.F.length:=⟨_,rfl⟩
    obtain ⟨H1,eH1⟩:∃ H1,H1=G0++[ribB R.L fv wv]:=⟨_,rfl⟩
    have x1:Ext G0 H1:=by rw [eH1];exact .app .refl
    have l1:H1.length=h.length+2:=by rw [eH1];simp [l0]
    have g01:=x1.get g0
    have g11:H1[G0.length]?=some (ribB R.L fv wv):=by rw [eH1];exact get_eq rfl
    have hs:Small R.F:=⟨by omega,hF.1.2⟩
    have hc:=fun base=>run_clone (base:=base) (iF.ext x1) hs
    have hnb:nilB fv=false:=by
     cases q:nilB fv with
     | false=>rfl
     | true=>exact absurd (hF.nilB_nil q).2 hne
    rw [cloneV,cloneH,if_neg (by simp [hnb]),if_neg (by simp [hnb]),newV_ne hne,newH_ne hne] at hc
    obtain ⟨id,eid⟩:∃ id,id=H1.length:=⟨_,rfl⟩
    obtain ⟨H2,eH2⟩:∃ H2,H2=H1++[rowB R.F 0]:=⟨_,rfl⟩
    rw [← eH2,← eid,← en] at hc
    have x2:Ext H1 H2:=by rw [eH2];exact .app .refl
    have l2:H2.length=h.length+3:=by rw [eH2];simp [l1]
    have g22:H2[id]?=some (iB R.F 0):=by rw [eH2,eid];exact get_eq rfl
    obtain ⟨w3,H3,e3,rfl,eH3⟩:=run_delete (base:=h.length) (i:=at_) g22 (by omega) hatl2 (by omega)
    rw [← en] at e3
    have l3:H3.length=h.length+3:=by rw [eH3,List.length_set,l2]
    have x3:Ext G0 H3:=by rw [eH3];exact (x1.trans x2).set (by omega)
    have g13:H3[G0.length]?=some (ribB R.L fv wv):=by rw [eH3,List.getElem?_set_ne (by omega)];exact x2.get g11
    have g23:H3[id]?=some (iB (R.F.eraseIdx at_++[0]) 0):=by rw [eH3,List.getElem?_set_self (by omega)]
    obtain ⟨H4,eH4⟩:∃ H4,H4=H3.set G0.length (ribB R.L (.slice (some ⟨id,0,0⟩) (n-1) n) wv):=⟨_,rfl⟩
    have l4:H4.length=h.length+3:=by rw [eH4,List.length_set,l3]
    have x4:Ext G0 H4:=by rw [eH4];exact x3.set (Nat.le_refl _)
    have g04:=x4.get g0
    have g14:H4[G0.length]?=some (ribB R.L (.slice (some ⟨id,0,0⟩) (n-1) n) wv):=by rw [eH4,List.getElem?_set_self (by omega)]
    have g24:H4[id]?=some (iB (R.F.eraseIdx at_++[0]) 0):=by rw [eH4,List.getElem?_set_ne (by omega)];exact g23
    have hel:(R.F.eraseIdx at_).length=n-1:=by rw [List.length_eraseIdx,if_pos hatl2,en]
    have hAd:RibAt H4 (.agg [.int .i64 R.L,.slice (some ⟨id,0,0⟩) (n-1) n,wv]) (delR R u):=by
     refine ⟨_,_,rfl,?_,hW.ext (x0.trans x4)⟩
     have hFe:(delR R u).F=R.F.eraseIdx at_:=by rw [eat];rfl
     rw [hFe]
     refine ⟨⟨by omega,fun y hy=>hF.1.2 y (List.mem_of_mem_eraseIdx hy)⟩,.inr (.inr ⟨⟨id,0,0⟩,n,_,_,true,false,by rw [hel],g24,?_,by rw [ints_length,List.length_append,hel];simp,by rw [hel];omega⟩)⟩
     rw [List.drop_zero,← ints_app,List.take_left' (by rw [ints_length])]
    have q1:=fun base=>run_allR (base:=base) (hAe H4 (x0.trans x4)) hR
    have q2:=fun base=>run_allR (base:=base) hAd hRd
    have v1:=valD_bd hR (x:=0)
    have v2:=valD_bd hRd (x:=0)
    unfold ribB at eH1 g11 g13 eH4 g14
    have hsp:=@Nat.succ_ne_zero;repeat' (first|simp (disch:=first|exact dqb|fail) only [go_sem,↓reduceIte,hsp,eG0.symm,g0,hck,eq_self,hbs,hun,← eH1,g01,hc,e3,g13,← eH4,g14,g04,q1,q2]|refine WP_drw ?_|refine cnd_intro (fun hsp=>?_) fun hsp=>?_)
    exact fin_pl rfl rfl (x0.trans x4)
   ·rw [decide_eq_false c2] at hbs
    have r:menL R u=(0,6):=by unfold menL;rw [if_neg (fun q=>q c1),if_neg c2]
    rw [r]
    have hsp:=@Nat.succ_ne_zero;repeat' (first|simp (disch:=first|exact dqb|fail) only [go_sem,↓reduceIte,hsp,eG0.symm,g0,hck,eq_self,hbs,hun]|refine WP_drw ?_|refine cnd_intro (fun hsp=>?_) fun hsp=>?_)
    exact fin_pl rfl rfl x0
  ·rw [decide_eq_false c1] at hun
   have r:menL R u=(0,1):=by unfold menL;rw [if_pos (fun q=>c1 q)]
   rw [r]
   have hsp:=@Nat.succ_ne_zero;repeat' (first|simp (disch:=first|exact dqb|fail) only [go_sem,↓reduceIte,hsp,eG0.symm,g0,hck,eq_self,hun]|refine WP_drw ?_|refine cnd_intro (fun hsp=>?_) fun hsp=>?_)
   exact fin_pl rfl rfl x0
 ·have t0:(chkR R=0)=False:=eq_false c0
  have re:menE R u=(0,chkR R):=by unfold menE;rw [if_pos c0]
  rw [re]
  have hsp:=@Nat.succ_ne_zero;repeat' (first|simp (disch:=first|exact dqb|fail) only [go_sem,↓reduceIte,hsp,eG0.symm,g0,hck,t0]|refine WP_drw ?_|refine cnd_intro (fun hsp=>?_) fun hsp=>?_)
  exact fin_pl rfl rfl x0
end Go.AM
namespace Go.AM
def tenR:Rib:=⟨10,[3,5],[⟨4,10,3,1,1⟩,⟨3,6,1,0,2⟩]⟩
theorem ten_chk:chkR tenR=0:=by kernel_rfl
theorem ten_ok:RibOk tenR:=chkR_iff.1 ten_chk
theorem ten_t1:takE tenR ⟨0,0,true⟩=(5,7,0):=by kernel_rfl
theorem ten_t2:takE tenR ⟨0,2,false⟩=(0,0,6):=by kernel_rfl
theorem ten_madl:(madE tenR).length=11:=by kernel_rfl
theorem ten_mad0:(madE tenR).getD 0 0=17:=by kernel_rfl
theorem ten_mad6:(madE tenR).getD 6 0=10:=by kernel_rfl
theorem ten_mad7:(madE tenR).getD 7 0=6:=by kernel_rfl
theorem ten_all:allE tenR=17:=by kernel_rfl
theorem ten_bst:(bstE false tenR).length=2:=by kernel_rfl
theorem ten_rst:rstE tenR [⟨0,0,true⟩,⟨0,6,false⟩]=([(3,3),(5,5)],0):=by kernel_rfl
theorem ten_usd:usdE tenR=[0]:=by kernel_rfl
theorem ten_dmg:dmgE tenR 8=(3,0):=by kernel_rfl
theorem ten_men:menE tenR 3=(3,0):=by kernel_rfl
theorem ten_rse:rseE tenR 1=(7,0):=by kernel_rfl
end Go.AM
namespace Go.AM
open Go.Proofs.Tryz
attribute [-go_sem] put_ne put_same
attribute [local go_sem ↓] put_if
theorem run_eqW0 {base:Nat} {h:Heap} {a b:AVal} {l:List Wnt} (ha:Rows encW h a l) (hb:Rows encW h b l) (hl:l.length≤1000):callL prog raw base (.fn 151 [] []) [a,b] h=some (.bool true,h):=by
 have h1:=ha.len Fc.el33
 have h2:=hb.len Fc.el33
 have oa:=ha.one
 have ob:=hb.one
 refine callL_run func151 rfl rfl ?_
 have hsp:=@Nat.succ_ne_zero;repeat' (first|simp (disch:=first|exact dqb|fail) only [go_sem,↓reduceIte,hsp,h1,h2]|refine WP_drw ?_|refine cnd_intro (fun hsp=>?_) fun hsp=>?_)
 refine WP_count [(4,5),(13,25)] 0 l.length (Nat.zero_le _) (fun H0 n fr h'=>fr 13=.int .i64 (n:Int)∧h'=H0) ?_ ?_ ?_
 ·exact ⟨by (simp (disch:=first|exact dqb|fail) only [go_sem,↓reduceIte,Int.natCast_zero];first|done|rfl),rfl⟩
 ·rintro n fr H hn0 hn hA ⟨r13,eH⟩
  subst eH
  have p0:=hA 0 rfl
  have p1:=hA 1 rfl
  have p12:=hA 12 rfl
  try simp (disch:=first|exact dqb|fail) only [go_sem,↓reduceIte] at p0 p1 p12
  have hlt:((n:Int)<(l.length:Int))=True:=eq_true (by omega)
  obtain ⟨x,ex⟩:∃ x,l[n]=x:=⟨_,rfl⟩
  have hx:l[n]?=some x:=by rw [List.getElem?_eq_getElem hn,ex]
  have a1:=ha.addr (P:=prog) (i:=(n:Int)) Fc.el33 Fc.ar33 (by omega) (by omega)
  have a2:=hb.addr (P:=prog) (i:=(n:Int)) Fc.el33 Fc.ar33 (by omega) (by omega)
  rw [Int.toNat_natCast] at a1 a2
  have d1:loadP prog H 50 (elAdr a encW.z n 0)=some (.agg [.int .i64 x.lg,.int .i64 x.pr,.int .i64 x.off,.int .i64 x.fl,.int .i64 x.jn]):=ha.load (P:=prog) Fc.ty50 hx
  have d2:loadP prog H 50 (elAdr b encW.z n 0)=some (.agg [.int .i64 x.lg,.int .i64 x.pr,.int .i64 x.off,.int .i64 x.fl,.int .i64 x.jn]):=hb.load (P:=prog) Fc.ty50 hx
  have hsp:=@Nat.succ_ne_zero;repeat' (first|simp (disch:=first|exact dqb|fail) only [go_sem,↓reduceIte,hsp,r13,p0,p1,p12,hlt,a1,a2,d1,d2,Fc.ne50,eq_self,and_self,not_true,decide_false]|refine WP_drw ?_|refine cnd_intro (fun hsp=>?_) fun hsp=>?_)
  exact ⟨agq,by omega⟩
 ·rintro fr H hA ⟨r13,eH⟩
  subst eH
  have p0:=hA 0 rfl
  have p1:=hA 1 rfl
  have p12:=hA 12 rfl
  try simp (disch:=first|exact dqb|fail) only [go_sem,↓reduceIte] at p0 p1 p12
  have hlt:((l.length:Int)<(l.length:Int))=False:=eq_false (by omega)
  have hsp:=@Nat.succ_ne_zero;repeat' (first|simp (disch:=first|exact dqb|fail) only [go_sem,↓reduceIte,hsp,r13,p0,p1,p12,hlt]|refine WP_drw ?_|refine cnd_intro (fun hsp=>?_) fun hsp=>?_)
  exact fB rfl
theorem run_eqS0 {base:Nat} {h:Heap} {a b:AVal} {l:List (Int × Int)} (ha:Rows encS h a l) (hb:Rows encS h b l) (hl:l.length≤1000):callL prog raw base (.fn 122 [] []) [a,b] h=some (.bool true,h):=by
 have h1:=ha.len Fc.el112
 have h2:=hb.len Fc.el112
 have oa:=ha.one
 have ob:=hb.one
 refine callL_run func122 rfl rfl ?_
 have hsp:=@Nat.succ_ne_zero;repeat' (first|simp (disch:=first|exact dqb|fail) only [go_sem,↓reduceIte,hsp,h1,h2]|refine WP_drw ?_|refine cnd_intro (fun hsp=>?_) fun hsp=>?_)
 refine WP_count [(4,5),(13,25)] 0 l.length (Nat.zero_le _) (fun H0 n fr h'=>fr 13=.int .i64 (n:Int)∧h'=H0) ?_ ?_ ?_
 ·exact ⟨by (simp (disch:=first|exact dqb|fail) only [go_sem,↓reduceIte,Int.natCast_zero];first|done|rfl),rfl⟩
 ·rintro n fr H hn0 hn hA ⟨r13,eH⟩
  subst eH
  have p0:=hA 0 rfl
  have p1:=hA 1 rfl
  have p12:=hA 12 rfl
  try simp (disch:=first|exact dqb|fail) only [go_sem,↓reduceIte] at p0 p1 p12
  have hlt:((n:Int)<(l.length:Int))=True:=eq_true (by omega)
  obtain ⟨x,ex⟩:∃ x,l[n]=x:=⟨_,rfl⟩
  have hx:l[n]?=some x:=by rw [List.getElem?_eq_getElem hn,ex]
  have a1:=ha.addr (P:=prog) (i:=(n:Int)) Fc.el112 Fc.ar112 (by omega) (by omega)
  have a2:=hb.addr (P:=prog) (i:=(n:Int)) Fc.el112 Fc.ar112 (by omega) (by omega)
  rw [Int.toNat_natCast] at a1 a2
  have d1:loadP prog H 84 (elAdr a encS.z n 0)=some (.agg [.int .i64 x.1,.int .i64 x.2]):=ha.load (P:=prog) Fc.ty84 hx
  have d2:loadP prog H 84 (elAdr b encS.z n 0)=some (.agg [.int .i64 x.1,.int .i64 x.2]):=hb.load (P:=prog) Fc.ty84 hx
  have hsp:=@Nat.succ_ne_zero;repeat' (first|simp (disch:=first|exact dqb|fail) only [go_sem,↓reduceIte,hsp,r13,p0,p1,p12,hlt,a1,a2,d1,d2,Fc.ne84,eq_self,and_self,not_true,decide_false]|refine WP_drw ?_|refine cnd_intro (fun hsp=>?_) fun hsp=>?_)
  exact ⟨agq,by omega⟩
 ·rintro fr H hA ⟨r13,eH⟩
  subst eH
  have p0:=hA 0 rfl
  have p1:=hA 1 rfl
  have p12:=hA 12 rfl
  try simp (disch:=first|exact dqb|fail) only [go_sem,↓reduceIte] at p0 p1 p12
  have hlt:((l.length:Int)<(l.length:Int))=False:=eq_false (by omega)
  have hsp:=@Nat.succ_ne_zero;repeat' (first|simp (disch:=first|exact dqb|fail) only [go_sem,↓reduceIte,hsp,r13,p0,p1,p12,hlt]|refine WP_drw ?_|refine cnd_intro (fun hsp=>?_) fun hsp=>?_)
  exact fB rfl
theorem run_eqS {base:Nat} {h:Heap} {a b:AVal} {l:List (Int × Int)} (ha:Rows encS h a l) (hb:Rows encS h b l) (hl:l.length≤1000):callL prog raw base (.fn 49 [] []) [a,b] h=some (.bool true,h):=by
 have e:=fun base=>run_eqS0 (base:=base) ha hb hl
 refine callL_run func49 rfl rfl ?_
 have hsp:=@Nat.succ_ne_zero;repeat' (first|simp (disch:=first|exact dqb|fail) only [go_sem,↓reduceIte,hsp,e]|refine WP_drw ?_|refine cnd_intro (fun hsp=>?_) fun hsp=>?_)
 exact fB rfl
end Go.AM
