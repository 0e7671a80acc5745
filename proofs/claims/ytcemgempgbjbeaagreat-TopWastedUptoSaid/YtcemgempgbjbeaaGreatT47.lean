/-
  TopWasted, walked.
-/
import Derived.Test.YtcemgempgbjbeaaGreatU23
import Derived.Test.YtcemgempgbjbeaaGreatU16
set_option linter.unusedSimpArgs false
set_option linter.unusedVariables false
namespace Go.AM
open Go.Proofs.Tryz
attribute [-go_sem] put_ne put_same
attribute [local go_sem ↓] put_if
def lotS (k:Nat):List (Int × Int):=[(-1,0)]++(3 :: List.replicate k (2:Int)).map ((0,·))
theorem lotS_len {k:Nat}:(lotS k).length=k+2:=by simp [lotS]
theorem lotS_at {k p:Nat}:(lotS k)[p]?=if p=0 then some (-1,0) else if p=1 then some (0,3) else if p<k+2 then some (0,2) else none:=by
 unfold lotS
 match p with
 | 0=>rfl
 | 1=>rfl
 | p+2 =>
  rw [if_neg (by omega),if_neg (by omega)]
  simp only [List.map_cons,List.map_replicate,List.singleton_append,List.getElem?_cons_succ]
  rw [List.getElem?_replicate]
  by_cases c:p<k
  ·rw [if_pos c,if_pos (by omega)]
  ·rw [if_neg c,if_neg (by omega)]
theorem lot_ok {k:Nat} {G:List (Int × Int × Int × Int)} (hk:k≤10) (hg:G.length≤10) (hw:∀ w ∈ G,WgOk (k+2) w):MOk ⟨0,lotS k,G⟩∧Star ⟨0,lotS k,G⟩∧Knd ⟨0,lotS k,G⟩:=by
 refine ⟨⟨rfl,by show 1≤(lotS k).length∧(lotS k).length≤12;rw [lotS_len];omega,hg,fun x hx=>?_,fun i x hx=>?_,fun w h=>by show WgOk (lotS k).length w;rw [lotS_len];exact hw w h⟩,fun i x hx=>?_,?_,fun p h1 h2=>?_⟩
 ·obtain ⟨i,hi⟩:=List.getElem?_of_mem hx
  have hi:(lotS k)[i]?=some x:=hi
  rw [lotS_at] at hi
  split at hi
  ·obtain rfl:=Option.some.inj hi;simp
  ·split at hi
   ·obtain rfl:=Option.some.inj hi;simp
   ·split at hi
    ·obtain rfl:=Option.some.inj hi;simp
    ·cases hi
 ·have hi:(lotS k)[i]?=some x:=hx
  rw [lotS_at] at hi
  split at hi
  ·obtain rfl:=Option.some.inj hi;simp only;omega
  ·split at hi
   ·obtain rfl:=Option.some.inj hi;simp only;omega
   ·split at hi
    ·obtain rfl:=Option.some.inj hi;simp only;omega
    ·cases hi
 ·have hi:(lotS k)[i]?=some x:=hx
  rw [lotS_at] at hi
  split at hi
  ·rename_i c;obtain rfl:=Option.some.inj hi;rw [if_pos c]
  ·rename_i c
   rw [if_neg c]
   split at hi
   ·obtain rfl:=Option.some.inj hi;rfl
   ·split at hi
    ·obtain rfl:=Option.some.inj hi;rfl
    ·cases hi
 ·show ((lotS k).getD 1 (0,0)).2=3
  rw [List.getD_eq_getElem?_getD,lotS_at];rfl
 ·have h2:p<(lotS k).length:=h2
  rw [lotS_len] at h2
  show ((lotS k).getD p (0,0)).2=2
  rw [List.getD_eq_getElem?_getD,lotS_at,if_neg (by omega),if_neg (by omega),if_pos h2];rfl
theorem stT47a {base:Nat} {l:List Oper} {s:St} {Q:AExit→St→Prop}:WP prog raw base (.region 6 l.toArray false) s Q=WPS prog raw base (.region 6 l.toArray false) s Q:=WP_stop
attribute [local go_sem ↓ 3000] stT47a
theorem stT47b {base:Nat} {l:List Oper} {s:St} {Q:AExit→St→Prop}:WP prog raw base (.region 38 l.toArray true) s Q=WPS prog raw base (.region 38 l.toArray true) s Q:=WP_stop
attribute [local go_sem ↓ 3000] stT47b
set_option maxRecDepth 100000 in
set_option maxHeartbeats 8000000 in
theorem run_TopWasted {base:Nat} {h:Heap} {v0:AVal} {l0:List Int} (hB0:Bytes h v0 l0) :
  callL prog raw base (.fn 5 [] []) [v0] h=some (.bool true,h):=by
 have hw0:=run_wound (base:=h.length) hB0
 have hS0:SpAt (h++[spB v0 l0 0]) h.length v0 l0 0:=SpAt.new hB0 rfl
 obtain ⟨_,H1,e1,L,F,W,fv,wv,k1,rfl,hk1,y1,oF,oW,okR,hL50,hF10,hW6⟩:=run_LMadeD (base:=h.length) (A:=50) (B:=10) (D:=6) (by simp) hS0 (by omega) (by omega) (by omega) (by omega)
 have x1:Ext h H1:=y1.old'
 have n1:=y1.len
 simp only [List.length_append,List.length_cons,List.length_nil] at n1
 have of1:=oF.one
 have ow1:=oW.one
 obtain ⟨R,eR⟩:∃ R:Rib,R=⟨L,F,W⟩:=⟨_,rfl⟩
 rw [← eR] at okR
 have hLR:R.L=L:=by rw [eR]
 have hWR:R.W=W:=by rw [eR]
 have hFR:R.F=F:=by rw [eR]
 have hL1:=okR.L
 obtain ⟨G1,eG1⟩:∃ G1,G1=H1++[ribB L fv wv]:=⟨_,rfl⟩
 have xG1:Ext H1 G1:=by rw [eG1];exact .app .refl
 have lG1:G1.length=H1.length+1:=by rw [eG1];simp
 have g1:G1[H1.length]?=some (ribB L fv wv):=by rw [eG1];exact get_eq rfl
 have hA1:RibAt G1 (.agg [.int .i64 L,fv,wv]) R:=⟨fv,wv,by rw [hLR],by rw [hFR];exact (own_ints oF ⟨by have:=okR.nF;rw [hFR] at this;omega,fun x hx=>by have:=okR.F x (by rw [hFR];exact hx);omega⟩).ext xG1,by rw [hWR];exact (oW.rows (by omega)).ext xG1⟩
 have hnF:=okR.nF
 obtain ⟨_,G2,e2,x2,u0,rfl,oP⟩:=run_Best (base:=h.length) (h:=G1) (by omega) hA1 (by omega)
 have hck:chkR R=0:=chkR_iff.2 okR
 rw [hck] at e2
 obtain ⟨p0,ep0⟩:∃ p0,p0=bstE false R:=⟨_,rfl⟩
 rw [← ep0] at oP
 have hp0:(plnL R p0 0 0).2=0:=by
  have:=(pthL_ok (b:=false) okR R.L.toNat 0 0 0 (by omega) (by omega) (by omega)).1
  rw [ep0];unfold bstE
  rw [if_neg (by simp [hck]),this]
 obtain ⟨w01,w02,w03,w04⟩:=waste_law okR hp0
 have hpl:p0.length≤60:=by omega
 have ou0:=oP.one
 have n2:=x2.len
 have g2:=x2.get g1
 obtain ⟨_,G3,e3,x3,ru0,rfl,oR0⟩:=run_Rest (base:=h.length) (h:=G2) (by omega) (hA1.ext x2) (by omega) (oP.rows (by omega))
 rw [w01] at e3
 have n3:=x3.len
 have or0:=oR0.one
 have g3:=x3.get g2
 have oP3:=oP.ext x3
 have nP:=(oP3.rows (by omega)).len (P:=prog) Fc.el41
 have rb0:=rst_bd okR hp0
 have sl0:=smS_nn (l:=(rstE R p0).1) fun y hy=>(rb0 y hy).2.1
 unfold ribB at eG1 g1 g2 g3
 refine callL_run func5 rfl rfl ?_
 have hsp:=@Nat.succ_ne_zero;repeat' (first|simp (disch:=first|exact dqd|fail) only [go_sem,↓reduceIte,hsp,hw0,e1,← eG1,g1,e2,g2,e3]|refine WP_drw ?_|refine cnd_intro (fun hsp=>?_) fun hsp=>?_)
 refine WPS_restF fun Z eZ=>?_
 rw [← WP_seq]
 have kZ3:=congrFun eZ 3
 have kZ4:=congrFun eZ 4
 have kZ7:=congrFun eZ 7
 try simp (disch:=first|exact dqd|fail) only [go_sem,↓reduceIte] at kZ3 kZ4 kZ7
 clear eZ
 refine WP_meet (fun fr h'=>Agree [(4,4),(6,7),(43,55)] fr Z∧∃ p uv rv,fr 4=uv∧fr 7=rv∧Ext G1 h'∧Rows encC h' uv p∧Rows encS h' rv (rstE R p).1∧(plnL R p 0 0).2=0∧p.length≤10) ?_ ?_
 ·rw [WP_seq,WP_region]
  by_cases c:p0.length > 10
  ·have t1:((p0.length:Int) > 10)=True:=eq_true (by omega)
   have hp1:=pln_take p0 0 0 10 hp0
   obtain ⟨w11,w12,w13,w14⟩:=waste_law okR hp1
   rcases oP3 with ⟨_,q⟩|⟨id,ver,eu,gq,hq,_⟩
   ·rw [q] at c;simp at c
   ·have sl:sliceA prog 41 u0 none (some (.int .i64 10)) none=some (.slice (some ⟨id,ver,0⟩) 10 p0.length):=by
     rw [eu]
     simp only [sliceA,Fc.ar41,Fc.el41,optB,boundI (show (0:Int)≤(10:Int) by omega) (show (10:Int)≤((p0.length:Nat):Int) by omega)]
     simp [ARef.add]
    have rH:Rows encC G3 (.slice (some ⟨id,ver,0⟩) 10 p0.length) (p0.take 10):=Rows.head gq (by omega) rfl (by omega)
    obtain ⟨_,G4,e4,x4,ru1,rfl,oR1⟩:=run_Rest (base:=h.length) (h:=G3) (by omega) (hA1.ext (x2.trans x3)) (by omega) rH
    rw [w11] at e4
    have or1:=oR1.one
    have rb1:=rst_bd okR hp1
    have sl1:=smS_nn (l:=(rstE R (p0.take 10)).1) fun y hy=>(rb1 y hy).2.1
    have hsp:=@Nat.succ_ne_zero;repeat' (first|simp (disch:=first|exact dqd|fail) only [go_sem,↓reduceIte,hsp,kZ3,kZ4,kZ7,nP,t1,sl,g3,e4]|refine WP_drw ?_|refine cnd_intro (fun hsp=>?_) fun hsp=>?_)
    exact ⟨agq,p0.take 10,_,_,rfl,rfl,x2.trans (x3.trans x4),rH.ext x4,oR1.rows (by omega),hp1,by rw [List.length_take];omega⟩
  ·have t1:((p0.length:Int) > 10)=False:=eq_false (by omega)
   have hsp:=@Nat.succ_ne_zero;repeat' (first|simp (disch:=first|exact dqd|fail) only [go_sem,↓reduceIte,hsp,kZ3,kZ4,kZ7,nP,t1]|refine WP_drw ?_|refine cnd_intro (fun hsp=>?_) fun hsp=>?_)
   exact ⟨agq,p0,_,_,rfl,rfl,x2.trans x3,oP3.rows (by omega),oR0.rows (by omega),hp0,by omega⟩
 ·rintro fr2 H ⟨hA2,p,uv,rv,y4,y7,xH,rP,rS,hp,hpl2⟩
  have y3:=hA2 3 rfl
  try simp (disch:=first|exact dqd|fail) only [go_sem,↓reduceIte,kZ3] at y3
  have xhH:Ext h H:=x1.trans (xG1.trans xH)
  obtain ⟨w1,w2,w3,w4⟩:=waste_law okR hp
  have rb:=rst_bd okR hp
  have slen:=smS_nn (l:=(rstE R p).1) fun z hz=>(rb z hz).2.1
  obtain ⟨rs,ers⟩:∃ rs,rs=(rstE R p).1:=⟨_,rfl⟩
  rw [← ers] at rb slen w2 w3 rS
  have orv:=rS.one
  have ouv:=rP.one
  have nS:=rS.len (P:=prog) Fc.el76
  have hLh:=xhH.len
  have hsp:=@Nat.succ_ne_zero;repeat' (first|simp (disch:=first|exact dqd|fail) only [go_sem,↓reduceIte,hsp,y3,y4,y7,nS]|refine WP_drw ?_|refine cnd_intro (fun hsp=>?_) fun hsp=>?_)
  refine WP_count [(9,11),(58,70)] 0 rs.length (Nat.zero_le _) (fun _ i fr h'=>fr 58=.int .i64 (i:Int)∧fr 9=.int .i64 (smS (rs.take i))∧Ext H h') ?_ ?_ ?_
  ·exact ⟨by (simp (disch:=first|exact dqd|fail) only [go_sem,↓reduceIte,Int.natCast_zero];first|done|rfl),by simp (disch:=first|exact dqd|fail) only [go_sem,↓reduceIte];rfl,.refl⟩
  ·rintro i fr J hi0 hi hA ⟨p58,p9,xJ⟩
   have p2:=hA 2 rfl
   have p3:=hA 3 rfl
   have p4:=hA 4 rfl
   have p56:=hA 56 rfl
   have p57:=hA 57 rfl
   try simp (disch:=first|exact dqd|fail) only [go_sem,↓reduceIte,y3,y4] at p2 p3 p4 p56 p57
   have hlt:((i:Int)<(rs.length:Int))=True:=eq_true (by omega)
   have rJ:=rS.ext xJ
   have a:=rJ.addr (P:=prog) (i:=(i:Int)) Fc.el76 Fc.ar76 (by omega) (by omega)
   rw [Int.toNat_natCast] at a
   obtain ⟨z,hz⟩:∃ z,rs[i]?=some z:=⟨_,List.getElem?_eq_getElem hi⟩
   have bz:=rb z (List.mem_of_getElem? hz)
   have d:loadP prog J 80 (elAdr rv encS.z i 0)=some (.agg [.int .i64 z.1,.int .i64 z.2]):=rJ.load Fc.ty80 hz
   have st:=smS_take (l:=rs) (fun y hy=>(rb y hy).2.1) i
   have ss:=smS_succ hz
   have lJ:=(xhH.trans xJ).len
   have hsp:=@Nat.succ_ne_zero;repeat' (first|simp (disch:=first|exact dqd|fail) only [go_sem,↓reduceIte,hsp,p2,p3,p4,p56,p57,p58,p9,hlt,a,d]|refine WP_drw ?_|refine cnd_intro (fun hsp=>?_) fun hsp=>?_)
   exact ⟨agq,by omega,by rw [ss],xJ.app⟩
  ·rintro fr J hA ⟨p58,p9,xJ⟩
   have p2:=hA 2 rfl
   have p3:=hA 3 rfl
   have p4:=hA 4 rfl
   have p56:=hA 56 rfl
   have p57:=hA 57 rfl
   try simp (disch:=first|exact dqd|fail) only [go_sem,↓reduceIte,y3,y4] at p2 p3 p4 p56 p57
   have hlt:((rs.length:Int)<(rs.length:Int))=False:=eq_false (by omega)
   rw [List.take_length] at p9
   have lJ:=(xhH.trans xJ).len
   obtain ⟨K1,eK1⟩:∃ K1,K1=J++[rowE encS 83 [((-1:Int),(0:Int))] 0]:=⟨_,rfl⟩
   have xK1:Ext J K1:=by rw [eK1];exact .app .refl
   have lK1:K1.length=J.length+1:=by rw [eK1];simp
   have bsL:∀ {lit:Bool},bsA prog lit J 84 1 [(0,.agg [.int .i64 (-1),.int .i64 0])]=some (.slice (some ⟨J.length,0,0⟩) 1 1,K1):=fun {lit}=>by
    rw [eK1]
    simp [bsA,rowOf,Fc.el84,fillA,repCells,AVal.isN,AVal.cells,splice,rowE,flat,encS]
   obtain ⟨K2,eK2⟩:∃ K2,K2=K1++[mlB 0 (.slice (some ⟨J.length,0,0⟩) 1 1) (.slice none 0 0)]:=⟨_,rfl⟩
   have xK2:Ext K1 K2:=by rw [eK2];exact .app .refl
   have lK2:K2.length=J.length+2:=by rw [eK2];simp [lK1]
   have m2:K2[K1.length]?=some (mlB 0 (.slice (some ⟨J.length,0,0⟩) 1 1) (.slice none 0 0)):=by rw [eK2];exact get_eq rfl
   have rL:Rows encS K2 (.slice (some ⟨J.length,0,0⟩) 1 1) [((-1:Int),(0:Int))]:=(Rows.own (ver:=0) (by rw [eK1];exact get_eq rfl) rfl (by simp):Rows encS K1 _ _).ext xK2
   obtain ⟨K3,eK3⟩:∃ K3,K3=K2++[rowE encI 81 [3] 0]:=⟨_,rfl⟩
   have xK3:Ext K2 K3:=by rw [eK3];exact .app .refl
   have bsK:∀ {lit:Bool},lit=false→bsA prog lit K2 88 1 [(0,.int .i64 3)]=some (.slice (some ⟨K2.length,0,0⟩) 1 1,K3):=fun {lit} hl=>by
    subst hl
    rw [eK3]
    simp [bsA,rowOf,Fc.el88,fillA,repCells,AVal.isN,AVal.cells,splice,rowE,flat,encI]
   have oK3:Own encI 81 K2.length K3 (.slice (some ⟨K2.length,0,0⟩) 1 1) [3]:=.inr ⟨K2.length,0,rfl,by rw [eK3];exact get_eq rfl,Nat.le_refl _,by simp⟩
   have nP:=(rP.ext (xJ.trans (xK1.trans (xK2.trans xK3)))).len (P:=prog) Fc.el41
   unfold mlB at eK2
   have hsp:=@Nat.succ_ne_zero;repeat' (first|simp (disch:=first|exact dqd|fail) only [go_sem,↓reduceIte,hsp,p2,p3,p4,p56,p57,p58,p9,hlt,bsL,← eK2,bsK,nP]|refine WP_drw ?_|refine cnd_intro (fun hsp=>?_) fun hsp=>?_)
   refine WP_count [(13,13),(77,82)] 0 p.length (Nat.zero_le _) (fun _ i fr h'=>fr 77=.int .i64 (i:Int)∧∃ kv,fr 13=kv∧Ext K2 h'∧Own encI 81 K2.length h' kv (3 :: List.replicate i 2)) ?_ ?_ ?_
   ·exact ⟨by (simp (disch:=first|exact dqd|fail) only [go_sem,↓reduceIte,Int.natCast_zero];first|done|rfl),_,by (simp (disch:=first|exact dqd|fail) only [go_sem,↓reduceIte];first|done|rfl),xK3,oK3⟩
   ·rintro i fr3 J2 hi0 hi hB ⟨d77,kv,d13,x2J,oK⟩
    have d2:=hB 2 rfl
    have d3:=hB 3 rfl
    have d4:=hB 4 rfl
    have d9:=hB 9 rfl
    have d12:=hB 12 rfl
    have d76:=hB 76 rfl
    try simp (disch:=first|exact dqd|fail) only [go_sem,↓reduceIte,p2,p3,p4,p9] at d2 d3 d4 d9 d12 d76
    have hlt2:((i:Int)<(p.length:Int))=True:=eq_true (by omega)
    have okv:=oK.one
    have l2J:=x2J.len
    obtain ⟨w',K',ea,oW',lW,eW,oneW,_⟩:=oK.append1X (P:=prog) (y:=(2:Int)) (a:=.int .i64 2) (base:=h.length) (t:=88) rfl rfl Fc.el88 encI_sc (by omega) (by omega) (by simp;omega)
    have bsV:∀ {lit:Bool},lit=true→bsA prog lit J2 88 1 [(0,.int .i64 2)]=some (.vals [.int .i64 2],J2):=fun {lit} hl=>by
     subst hl
     simp [bsA,rowOf,Fc.el88,fillA,repCells,AVal.isN,AVal.cells,splice,AVal.bare]
    have hsp:=@Nat.succ_ne_zero;repeat' (first|simp (disch:=first|exact dqd|fail) only [go_sem,↓reduceIte,hsp,d2,d3,d4,d9,d12,d76,d77,d13,p2,p3,p4,p56,p57,p58,p9,hlt2,bsV,ea]|refine WP_drw ?_|refine cnd_intro (fun hsp=>?_) fun hsp=>?_)
    exact ⟨agq,by omega,w',rfl,eW K2 (Nat.le_refl _) x2J,by rw [List.replicate_succ'];exact oW'⟩
   ·rintro fr3 J2 hB ⟨d77,kv,d13,x2J,oK⟩
    have d2:=hB 2 rfl
    have d3:=hB 3 rfl
    have d4:=hB 4 rfl
    have d9:=hB 9 rfl
    have d12:=hB 12 rfl
    have d76:=hB 76 rfl
    try simp (disch:=first|exact dqd|fail) only [go_sem,↓reduceIte,p2,p3,p4,p9] at d2 d3 d4 d9 d12 d76
    have hlt2:((p.length:Int)<(p.length:Int))=False:=eq_false (by omega)
    have okv:=oK.one
    have l2J:=x2J.len
    have m2J:=x2J.get m2
    have mM:MilAt J2 (.agg [.int .i64 0,.slice (some ⟨J.length,0,0⟩) 1 1,.slice none 0 0]) ⟨0,[((-1:Int),(0:Int))],[]⟩:=⟨_,_,rfl,rL.ext x2J,Rows.nil⟩
    have okM:MOk ⟨0,[((-1:Int),(0:Int))],[]⟩:=⟨rfl,by simp,by simp,by simp,fun i x hx=>by
     match i with
     | 0=>obtain rfl:=Option.some.inj hx;simp
     | i+1=>simp at hx,by simp⟩
    have stM:Star ⟨0,[((-1:Int),(0:Int))],[]⟩:=fun i x hx=>by
     match i with
     | 0=>obtain rfl:=Option.some.inj hx;rfl
     | i+1=>simp at hx
    obtain ⟨_,J3,e4,vM,rfl,x4,mM3⟩:=run_Split (base:=h.length) (by omega) mM okM stM rfl (oK.rows (by first|(simp;done)|(simp;omega))) (fun z hz=>by
     rcases List.mem_cons.1 hz with hz|hz
     ·omega
     ·have:=List.eq_of_mem_replicate hz;omega) (by first|(simp only [List.length_cons,List.length_replicate];done)|(simp only [List.length_cons,List.length_replicate];omega)) rfl
    have eLS:[((-1:Int),(0:Int))]++(3 :: List.replicate p.length (2:Int)).map ((0,·))=lotS p.length:=rfl
    rw [eLS] at mM3
    have m3:=x4.get m2J
    have l4:=x4.len
    have mM3':=mM3
    obtain ⟨lv1,wv1,rfl,a1,a2⟩:=mM3'
    have oa1:=a1.one
    have oa2:=a2.one
    obtain ⟨J4,eJ4⟩:∃ J4,J4=J3.set K1.length (mlB 0 lv1 wv1):=⟨_,rfl⟩
    have lJ4:J4.length=J3.length:=by rw [eJ4,List.length_set]
    have m4:J4[K1.length]?=some (mlB 0 lv1 wv1):=by rw [eJ4,List.getElem?_set_self (by omega)]
    have xK1J4:Ext K1 J4:=by rw [eJ4];exact (xK2.trans (x2J.trans x4)).set (Nat.le_refl _)
    have mM4:MilAt J4 (.agg [.int .i64 0,lv1,wv1]) ⟨0,lotS p.length,[]⟩:=by rw [eJ4];exact mM3.box m3 (by show 2≤(lotS _).length;rw [lotS_len];omega)
    obtain ⟨ok4,st4,_⟩:=lot_ok (k:=p.length) (G:=[]) (by omega) (by simp) (by simp)
    have xJall:Ext J J4:=xK1.trans xK1J4
    have gRb:∀ {Q:Heap},Ext K1 Q→Q[H1.length]?=some (ribB L fv wv):=fun {Q} e=>(xH.trans (xJ.trans (xK1.trans e))).get (by rw [eG1];exact get_eq rfl)
    have g4:=gRb xK1J4
    have hw0':WgOk (lotS p.length).length ((0:Int),L,(0:Int),(0:Int)):=⟨by rw [lotS_len];simp only;omega,by simp only;omega,⟨rfl,rfl⟩⟩
    obtain ⟨_,J5,e5,x5,vM5,rfl,mM5,ok5⟩:=run_Weigh (base:=h.length) (w:=(0,L,0,0)) (by omega) mM4 ok4 hw0' (by simp)
    have mM5':=mM5
    obtain ⟨lv2,wv2,rfl,b1,b2⟩:=mM5'
    have ob1:=b1.one
    have ob2:=b2.one
    have m5:=x5.get m4
    have l5:=x5.len
    obtain ⟨J6,eJ6⟩:∃ J6,J6=J5.set K1.length (mlB 0 lv2 wv2):=⟨_,rfl⟩
    have lJ6:J6.length=J5.length:=by rw [eJ6,List.length_set]
    have m6:J6[K1.length]?=some (mlB 0 lv2 wv2):=by rw [eJ6,List.getElem?_set_self (by omega)]
    have xK1J6:Ext K1 J6:=by rw [eJ6];exact (xK1J4.trans x5).set (Nat.le_refl _)
    have mM6:MilAt J6 (.agg [.int .i64 0,lv2,wv2]) ⟨0,lotS p.length,[((0:Int),L,(0:Int),(0:Int))]⟩:=by rw [eJ6];exact mM5.box m5 (by show 2≤(lotS _).length;rw [lotS_len];omega)
    have nP6:=(rP.ext (xJ.trans (xK1.trans xK1J6))).len (P:=prog) Fc.el41
    unfold ribB at g4
    unfold mlB at m2J m3 m4 m5 eJ4 eJ6
    have hsp:=@Nat.succ_ne_zero;repeat' (first|simp (disch:=first|exact dqd|fail) only [go_sem,↓reduceIte,hsp,d2,d3,d4,d9,d12,d76,d77,d13,p2,p3,p4,p56,p57,p58,p9,hlt2,m2J,e4,m3,← eJ4,m4,g4,e5,m5,← eJ6,nP6]|refine WP_drw ?_|refine cnd_intro (fun hsp=>?_) fun hsp=>?_)
    have gwg:∀ i,i≤p.length→∀ w ∈ ((0:Int),L,(0:Int),(0:Int)) :: wgN R p i,WgOk (p.length+2) w:=fun i hi w hw=>by
     rcases List.mem_cons.1 hw with hw|hw
     ·rw [hw];exact ⟨by simp only;omega,by simp only;omega,⟨rfl,rfl⟩⟩
     ·obtain ⟨j,hj,rfl⟩:=List.mem_map.1 hw
      rw [List.mem_range] at hj
      obtain ⟨w,_,e1,b1,_⟩:=lgC_bd okR hp (c:=p.getD j ct0) (getD_mem' (by omega))
      exact ⟨by simp only;omega,by simp only;omega,⟨rfl,rfl⟩⟩
    refine WP_count [(2,2),(6,6),(14,16),(103,156)] 0 p.length (Nat.zero_le _) (fun _ i fr h'=>fr 103=.int .i64 (i:Int)∧fr 14=.int .i64 (lgS R (p.take i))∧i≤9∧∃ lv wv',Ext K1 h'∧h'[K1.length]?=some (mlB 0 lv wv')∧MilAt h' (.agg [.int .i64 0,lv,wv']) ⟨0,lotS p.length,((0:Int),L,(0:Int),(0:Int)) :: wgN R p i⟩) ?_ ?_ ?_
    ·exact ⟨by (simp (disch:=first|exact dqd|fail) only [go_sem,↓reduceIte,Int.natCast_zero];first|done|rfl),by simp (disch:=first|exact dqd|fail) only [go_sem,↓reduceIte];rfl,by omega,lv2,wv2,xK1J6,m6,mM6⟩
    ·rintro i fr4 Q hi0 hi hC ⟨c103,c14,hi9,lv3,wv3,xQ,mQ,mMQ⟩
     have c3:=hC 3 rfl
     have c4:=hC 4 rfl
     have c9:=hC 9 rfl
     have c12:=hC 12 rfl
     have c101:=hC 101 rfl
     have c102:=hC 102 rfl
     try simp (disch:=first|exact dqd|fail) only [go_sem,↓reduceIte,d3,d4,d9,d12] at c3 c4 c9 c12 c101 c102
     have hlt3:((i:Int)<(p.length:Int))=True:=eq_true (by omega)
     have lQ:=lt_of_get mQ
     have xHQ:Ext H Q:=xJ.trans (xK1.trans xQ)
     have rPQ:=rP.ext xHQ
     have a:=rPQ.addr (P:=prog) (i:=(i:Int)) Fc.el41 Fc.ar41 (by omega) (by omega)
     rw [Int.toNat_natCast] at a
     obtain ⟨ct,ect⟩:∃ ct,ct=p.getD i ct0:=⟨_,rfl⟩
     have hct:p[i]?=some ct:=by rw [ect];exact getD_some hi
     have dC:loadP prog Q 95 (elAdr uv encC.z i 0)=some (.agg [.int .i64 ct.w,.int .i64 ct.f,.bool ct.j]):=rPQ.load Fc.ty95 hct
     obtain ⟨wt,hwt,e6,b6,b7⟩:=lgC_bd okR hp (c:=ct) (by rw [ect];exact getD_mem' hi)
     obtain ⟨n,en⟩:=Int.eq_ofNat_of_zero_le b7.1
     rw [en,Int.toNat_natCast,hWR] at hwt
     have hnW:n<W.length:=(List.getElem?_eq_some_iff.1 hwt).1
     rw [en] at dC
     obtain ⟨Q1,eQ1⟩:∃ Q1,Q1=Q++[(⟨.cells [.int .i64 (n:Int),.int .i64 ct.f,.bool ct.j] 95 false false,0⟩:ABlk)]:=⟨_,rfl⟩
     have xQ1:Ext Q Q1:=by rw [eQ1];exact .app .refl
     have lQ1:Q1.length=Q.length+1:=by rw [eQ1];simp
     have kc:Q1[Q.length]?=some ⟨.cells [.int .i64 (n:Int),.int .i64 ct.f,.bool ct.j] 95 false false,0⟩:=by rw [eQ1];exact get_eq rfl
     have gQ:=gRb (xQ.trans xQ1)
     have rW:Rows encW Q1 wv W:=((oW.rows (by omega)).ext xG1).ext (xH.trans (xHQ.trans xQ1))
     have nW:=rW.len (P:=prog) Fc.el36
     have aW:=rW.addr (P:=prog) (i:=(n:Int)) Fc.el36 Fc.ar36 (by omega) (by omega)
     rw [Int.toNat_natCast] at aW
     have fW:fieldAddrA prog 74 (elAdr wv encW.z n 0) 0=some (elAdr wv encW.z n 0):=elAdr_field (P:=prog) (o:=0) (off:=0) (q:=false) (n:=1) rW hnW (by kernel_rfl) (by decide)
     have dW:loadP prog Q1 3 (elAdr wv encW.z n 0)=some (.int .i64 (lgC R ct)):=by rw [e6];exact rW.cell Fc.ty3 hwt rfl
     have t1:((n:Int)<0)=False:=eq_false (by omega)
     have t2:((n:Int) ≥ (W.length:Int))=False:=eq_false (by omega)
     have lt1:=lgS_take (R:=R) hi
     rw [← ect] at lt1
     have lbd:0≤lgS R (p.take i)∧lgS R (p.take i)≤600:=by
      have a1:=waste_law okR (pln_take p 0 0 i hp)
      omega
     have mQ1:=xQ1.get mQ
     have mMQ1:=mMQ.ext xQ1
     obtain ⟨okQ,stQ',_⟩:=lot_ok (k:=p.length) (G:=((0:Int),L,(0:Int),(0:Int)) :: wgN R p i) (by omega) (by rw [List.length_cons,wgN_len];omega) (gwg i (by omega))
     have lhQ:=(xhH.trans xHQ).len
     have omq:One lv3∧One wv3:=by
      obtain ⟨l',w',e,r1,r2⟩:=mMQ
      simp only [AVal.agg.injEq,List.cons.injEq,and_true] at e
      obtain ⟨_,rfl,rfl⟩:=e
      exact ⟨r1.one,r2.one⟩
     obtain ⟨om1,om2⟩:=omq
     unfold ribB at gQ
     by_cases c9:i=9
     ·subst c9
      have a9:indexAddrA prog 41 uv (.int .i64 9)=some (elAdr uv encC.z 9 0):=a
      have t3:(((9:Nat):Int)=9)=True:=eq_true rfl
      have hp10:p.length=10:=by omega
      have full:lgS R (p.take (9+1))=lgS R p:=by rw [List.take_of_length_le (by omega)]
      rw [full] at lt1
      have t4:(smS rs+(lgS R (p.take 9)+lgC R ct)≤L)=True:=eq_true (by omega)
      have hlt9:((9:Int)<(p.length:Int))=True:=hlt3
      have hsp:=@Nat.succ_ne_zero;repeat' (first|simp (disch:=first|exact dqd|fail) only [go_sem,↓reduceIte,hsp,c3,c4,c9,c12,c101,c102,c103,c14,d2,d3,d4,d9,d12,d76,d77,d13,p2,p3,p4,p56,p57,p58,p9,y3,y4,y7,hlt3,hlt9,a9,dC,← eQ1,kc,t1,gQ,nW,t2,aW,fW,dW,t3,t4,run_awake08]|refine WP_drw ?_|refine cnd_intro (fun hsp=>?_) fun hsp=>?_)
      exact fB rfl (xhH.trans (xHQ.trans xQ1))
     ·have t3:((i:Int)=9)=False:=eq_false (by omega)
      have hwi:WgOk (lotS p.length).length (((2+i:Nat):Int),lgC R ct,(0:Int),(0:Int)):=⟨by rw [lotS_len];simp only;omega,by simp only;omega,⟨rfl,rfl⟩⟩
      obtain ⟨_,Q2,e7,x7,vQ,rfl,mM7,ok7⟩:=run_Weigh (base:=h.length) (w:=(((2+i:Nat):Int),lgC R ct,0,0)) (by omega) mMQ1 okQ hwi (by show (_ :: wgN R p i).length<10;rw [List.length_cons,wgN_len];omega)
      have mM7':=mM7
      obtain ⟨lv5,wv5,rfl,r1,r2⟩:=mM7'
      have or1:=r1.one
      have or2:=r2.one
      have mQ2:=x7.get mQ1
      have e2i:(2:Int)+(i:Int)=((2+i:Nat):Int):=by omega
      have lQ2:=lt_of_get mQ2
      unfold mlB at mQ1 mQ2
      have hsp:=@Nat.succ_ne_zero;repeat' (first|simp (disch:=first|exact dqd|fail) only [go_sem,↓reduceIte,hsp,c3,c4,c9,c12,c101,c102,c103,c14,d2,d3,d4,d9,d12,d76,d77,d13,p2,p3,p4,p56,p57,p58,p9,y3,y4,y7,hlt3,a,dC,← eQ1,kc,t1,gQ,nW,t2,aW,fW,dW,t3]|refine WP_drw ?_|refine cnd_intro (fun hsp=>?_) fun hsp=>?_)
      refine WPS_go ?_
      refine WP_wild [] (by kernel_rfl) (by kernel_rfl) (by kernel_rfl) trivial fun KK hK=>?_
      iterate 17
       rw [TRS_cons]
       refine ⟨by first|(simp (disch:=first|exact dqd|fail) only [go_sem,↓reduceIte,c3,c4,c9,c12,c101,c102,c103,c14,d2,d3,d4,d9,d12,d76,d77,d13,p2,p3,p4,p56,p57,p58,p9,y3,y4,y7,mQ1,e2i,gQ,kc,aW,fW,dW,e7,mQ2,ldsQ_cons,ldsQ_nil,grdQ_cons,grdQ_nil,if_true,Nat.reduceLeDiff];done)|exact trivial,?_⟩
       simp (disch:=first|exact dqd|fail) only [go_sem,↓reduceIte,c3,c4,c9,c12,c101,c102,c103,c14,d2,d3,d4,d9,d12,d76,d77,d13,p2,p3,p4,p56,p57,p58,p9,y3,y4,y7,mQ1,e2i,gQ,kc,aW,fW,dW,e7,mQ2]
      rw [TRS_nil]
      refine ⟨by first|(simp (disch:=first|exact dqd|fail) only [go_sem,↓reduceIte,c3,c4,c9,c12,c101,c102,c103,c14,d2,d3,d4,d9,d12,d76,d77,d13,p2,p3,p4,p56,p57,p58,p9,y3,y4,y7,mQ1,e2i,gQ,kc,aW,fW,dW,e7,mQ2,ldsQ_cons,ldsQ_nil,grdQ_cons,grdQ_nil,if_true,Nat.reduceLeDiff];done)|exact trivial,?_⟩
      subst hK
      have hsp:=@Nat.succ_ne_zero;repeat' (first|simp (disch:=first|exact dqd|fail) only [go_sem,↓reduceIte,hsp,c3,c4,c9,c12,c101,c102,c103,c14,d2,d3,d4,d9,d12,d76,d77,d13,p2,p3,p4,p56,p57,p58,p9,y3,y4,y7]|refine WP_drw ?_|refine cnd_intro (fun hsp=>?_) fun hsp=>?_)
      have mMf:MilAt (Q2.set K1.length (mlB 0 lv5 wv5)) (.agg [.int .i64 0,lv5,wv5]) ⟨0,lotS p.length,(((0:Int),L,(0:Int),(0:Int)) :: wgN R p i)++[(((2+i:Nat):Int),lgC R ct,0,0)]⟩:=mM7.box mQ2 (by show 2≤(lotS _).length;rw [lotS_len];omega)
      refine ⟨agq,by omega,by rw [lt1],by omega,lv5,wv5,(xQ.trans (xQ1.trans x7)).set (Nat.le_refl _),by first|rfl|rw [List.getElem?_set_self lQ2],?_⟩
      rw [wgN_succ,← ect,← List.cons_append]
      exact mMf
    ·rintro fr4 Q hC ⟨c103,c14,hi9,lv3,wv3,xQ,mQ,mMQ⟩
     have c3:=hC 3 rfl
     have c4:=hC 4 rfl
     have c9:=hC 9 rfl
     have c12:=hC 12 rfl
     have c101:=hC 101 rfl
     have c102:=hC 102 rfl
     try simp (disch:=first|exact dqd|fail) only [go_sem,↓reduceIte,d3,d4,d9,d12] at c3 c4 c9 c12 c101 c102
     have hlt3:((p.length:Int)<(p.length:Int))=False:=eq_false (by omega)
     rw [List.take_length] at c14
     have lQ:=lt_of_get mQ
     have xHQ:Ext H Q:=xJ.trans (xK1.trans xQ)
     have lhQ:=(xhH.trans xHQ).len
     obtain ⟨okQ,stM',knM⟩:=lot_ok (k:=p.length) (G:=((0:Int),L,(0:Int),(0:Int)) :: wgN R p p.length) (by omega) (by rw [List.length_cons,wgN_len];omega) (gwg p.length (Nat.le_refl _))
     obtain ⟨om1,om2⟩:One lv3∧One wv3:=by
      obtain ⟨l',w',e,r1,r2⟩:=mMQ
      simp only [AVal.agg.injEq,List.cons.injEq,and_true] at e
      obtain ⟨_,rfl,rfl⟩:=e
      exact ⟨r1.one,r2.one⟩
     have hwg:=wgd_plan okR hp hpl2
     rw [hLR] at hwg w2
     obtain ⟨M,eM⟩:∃ M:Mil,M=⟨0,lotS p.length,((0:Int),L,(0:Int),(0:Int)) :: wgN R p p.length⟩:=⟨_,rfl⟩
     have hML:M.L.length=p.length+2:=by rw [eM];exact lotS_len
     have hMG:M.G=((0:Int),L,(0:Int),(0:Int)) :: wgN R p p.length:=by rw [eM]
     rw [← eM] at okQ stM' knM mMQ
     rw [← hML,← hMG] at hwg
     have left:L-lgS R p=smS rs:=by omega
     have hSn:0≤lgS R p:=by omega
     obtain ⟨_,Q1,e8,x8,bs,rfl,oB⟩:=run_Bounds (base:=h.length) (by omega) mMQ okQ stM' hwg
     have obs:=oB.one
     have mQ1:=x8.get mQ
     have wh3:=fun base H' (e:Ext Q H')=>run_Where (base:=base) (kd:=3) (mMQ.ext e) okQ stM' hwg hSn knM (.inl rfl)
     have wh2:=fun base H' (e:Ext Q H')=>run_Where (base:=base) (kd:=2) (mMQ.ext e) okQ stM' hwg hSn knM (.inr rfl)
     rw [if_pos rfl,left] at wh3
     rw [if_neg (by omega)] at wh2
     obtain ⟨Q2,eQ2⟩:∃ Q2,Q2=Q1++[spX (smS rs) (smS rs)]:=⟨_,rfl⟩
     have xQ2:Ext Q1 Q2:=by rw [eQ2];exact .app .refl
     have s2:Q2[Q1.length]?=some (spX (smS rs) (smS rs)):=by rw [eQ2];exact get_eq rfl
     have l2:Q2.length=Q1.length+1:=by rw [eQ2];simp
     obtain ⟨Q3,eQ3⟩:∃ Q3,Q3=Q2++[spX (lgS R p) (lgS R p)]:=⟨_,rfl⟩
     have xQ3:Ext Q2 Q3:=by rw [eQ3];exact .app .refl
     have s3:Q3[Q2.length]?=some (spX (lgS R p) (lgS R p)):=by rw [eQ3];exact get_eq rfl
     have l3:Q3.length=Q1.length+2:=by rw [eQ3];simp [l2]
     obtain ⟨Q4,eQ4⟩:∃ Q4,Q4=Q3++[spX (smS rs) (smS rs)]:=⟨_,rfl⟩
     have xQ4:Ext Q3 Q4:=by rw [eQ4];exact .app .refl
     have s4:Q4[Q3.length]?=some (spX (smS rs) (smS rs)):=by rw [eQ4];exact get_eq rfl
     have l4':Q4.length=Q1.length+3:=by rw [eQ4];simp [l3]
     have w31:=fun base=>wh3 base Q1 x8
     have w22:=fun base=>wh2 base Q2 (x8.trans xQ2)
     have mQ2:=xQ2.get mQ1
     have s24:=(xQ3.trans xQ4).get s2
     have s34:=xQ4.get s3
     have gQ:=gRb (xQ.trans (x8.trans (xQ2.trans (xQ3.trans xQ4))))
     have lQ1:=x8.len
     rw [hML] at oB
     have rB:=(oB.rows (by rw [spL_len];omega)).ext (xQ2.trans (xQ3.trans xQ4))
     have nB:=rB.len (P:=prog) Fc.el76
     rw [spL_len] at nB
     have nPQ:=(rP.ext (xHQ.trans (x8.trans (xQ2.trans (xQ3.trans xQ4))))).len (P:=prog) Fc.el41
     have aB:indexAddrA prog 76 bs (.int .i64 1)=some (elAdr bs encS.z 1 0):=rB.addr (P:=prog) (i:=1) Fc.el76 Fc.ar76 (by omega) (by rw [spL_len];omega)
     have dB:loadP prog Q4 80 (elAdr bs encS.z 1 0)=some (.agg [.int .i64 (smS rs),.int .i64 (smS rs)]):=by
      have hx:(spL (tgtF (gF (p.length+2) M.G) (L-lgS R p)) (p.length+2))[1]?=some (smS rs,smS rs):=by
       unfold spL
       rw [List.getElem?_map,List.getElem?_range (by omega)]
       show some (tgtF _ _ 1)=_
       unfold tgtF
       rw [if_pos rfl,left]
      exact rB.load Fc.ty80 hx
     have t5:(((p.length+2:Nat):Int)=(p.length:Int)+2)=True:=eq_true (by omega)
     have t6:(smS rs+lgS R p=L)=True:=eq_true (by omega)
     unfold mlB at mQ mQ1 mQ2
     unfold spX at eQ2 eQ3 eQ4 s24 s34 s4
     unfold ribB at gQ
     have hsp:=@Nat.succ_ne_zero;repeat' (first|simp (disch:=first|exact dqd|fail) only [go_sem,↓reduceIte,hsp,c3,c4,c9,c12,c101,c102,c103,c14,d2,d3,d4,d9,d12,d76,d77,d13,p2,p3,p4,p56,p57,p58,p9,y3,y4,y7,hlt3,mQ,e8,mQ1,w31,← eQ2,mQ2,w22,← eQ3,← eQ4,nB,nPQ,t5,aB,dB,s4,s24,s34,gQ,t6,eq_self,and_self,run_awake08]|refine WP_drw ?_|refine cnd_intro (fun hsp=>?_) fun hsp=>?_)
     exact fB rfl (xhH.trans (xHQ.trans (x8.trans (xQ2.trans (xQ3.trans xQ4)))))
end Go.AM
