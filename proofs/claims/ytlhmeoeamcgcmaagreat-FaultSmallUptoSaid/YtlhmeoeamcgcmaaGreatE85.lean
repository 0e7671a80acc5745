/-
  FaultSmall, walked.
-/
import Derived.Test.YtlhmeoeamcgcmaaGreatE82
set_option linter.unusedSimpArgs false
set_option linter.unusedVariables false
namespace Go.AM
open Go.Proofs.Tryz
attribute [-go_sem] put_ne put_same
attribute [local go_sem ↓] put_if
theorem stE85 {base:Nat} {l:List Oper} {s:St} {Q:AExit→St→Prop}:WP prog raw base (.region 12 l.toArray false) s Q=WPS prog raw base (.region 12 l.toArray false) s Q:=WP_stop
attribute [local go_sem ↓ 3000] stE85
set_option maxRecDepth 100000 in
set_option maxHeartbeats 4000000 in
theorem run_FaultSmall {base:Nat} {h:Heap}:callL prog raw base (.fn 8 [] []) [] h=some (.bool true,h):=by
 obtain ⟨H0,eH0⟩:∃ H0,H0=h++limL.map fun l=>rowB l 0:=⟨_,rfl⟩
 obtain ⟨H1,eH1⟩:∃ H1,H1=H0++[(⟨.cells (limC h.length) 36 true false,0⟩:ABlk)]:=⟨_,rfl⟩
 have x01:Ext H0 H1:=by rw [eH1];exact .app .refl
 have x1:Ext h H1:=by rw [eH1,eH0];exact .app ⟨_,rfl⟩
 have hl0:H0.length=h.length+16:=by rw [eH0];simp [limL]
 have gC:H1[h.length+16]?=some ⟨.cells (limC h.length) 36 true false,0⟩:=by rw [eH1];exact get_eq hl0.symm
 have hl1:=x1.len
 have lim:∀ i,i<16→Ints H1 (.slice (some ⟨h.length+i,0,0⟩) (limL.getD i []).length (limL.getD i []).length) (limL.getD i []):=fun i hi=>ints_rowB (x01.get (lim_row eH0 hi)) (lim_small hi)
 have eX:h++[rowB [0,1,2,6,7] 0]++[rowB [0,1,2,3,12,13] 0]++[rowB [-1,0,1,2] 0]++[rowB [0,1,2,4,5] 0]++[rowB [-1,0,1,2] 0]++[rowB [-1,0,1,2] 0]++[rowB [-1,0,1,2,3,4] 0]++[rowB [0,1,2,3,4] 0]++[rowB [-1,0,1,2] 0]++[rowB [-1,0,1,3,4] 0]++[rowB [-1,0,1,3,4] 0]++[rowB [-1,0,1,2] 0]++[rowB [-1,0,3,4] 0]++[rowB [-1,0,1,2] 0]++[rowB [-1,0,1,2,3] 0]++[rowB [-1,0,1000,1001] 0]=H0:=by rw [eH0];simp [limL]
 have bsL:∀ {lit:Bool},lit=false→bsA prog lit H0 104 16 [(0,.slice (some ⟨h.length,0,0⟩) 5 5),(1,.slice (some ⟨h.length+1,0,0⟩) 6 6),(2,.slice (some ⟨h.length+1+1,0,0⟩) 4 4),(3,.slice (some ⟨h.length+1+1+1,0,0⟩) 5 5),(4,.slice (some ⟨h.length+1+1+1+1,0,0⟩) 4 4),(5,.slice (some ⟨h.length+1+1+1+1+1,0,0⟩) 4 4),(6,.slice (some ⟨h.length+1+1+1+1+1+1,0,0⟩) 6 6),(7,.slice (some ⟨h.length+1+1+1+1+1+1+1,0,0⟩) 5 5),(8,.slice (some ⟨h.length+1+1+1+1+1+1+1+1,0,0⟩) 4 4),(9,.slice (some ⟨h.length+1+1+1+1+1+1+1+1+1,0,0⟩) 5 5),(10,.slice (some ⟨h.length+1+1+1+1+1+1+1+1+1+1,0,0⟩) 5 5),(11,.slice (some ⟨h.length+1+1+1+1+1+1+1+1+1+1+1,0,0⟩) 4 4),(12,.slice (some ⟨h.length+1+1+1+1+1+1+1+1+1+1+1+1,0,0⟩) 4 4),(13,.slice (some ⟨h.length+1+1+1+1+1+1+1+1+1+1+1+1+1,0,0⟩) 4 4),(14,.slice (some ⟨h.length+1+1+1+1+1+1+1+1+1+1+1+1+1+1,0,0⟩) 5 5),(15,.slice (some ⟨h.length+1+1+1+1+1+1+1+1+1+1+1+1+1+1+1,0,0⟩) 4 4)]=some (.slice (some ⟨h.length+16,0,0⟩) 16 16,H1):=fun hl=>by
  rw [bsS16 hl,hl0,eH1];rfl
 refine callL_run func8 rfl rfl ?_
 have hsp:=@Nat.succ_ne_zero;repeat' (first|simp (disch:=first|exact dq|fail) only [go_sem,↓reduceIte,hsp,bs4I,bs5I,bs6I,eX,bsL]|refine WP_drw ?_|refine cnd_intro (fun hsp=>?_) fun hsp=>?_)
 refine WP_count [(0,12),(49,139)] 0 16 (Nat.zero_le _) (fun _ i fr h'=>fr 49=.int .i64 (i:Int)∧Ext H1 h') ?_ ?_ ?_
 ·exact ⟨by (simp (disch:=first|exact dq|fail) only [go_sem,↓reduceIte,Int.natCast_zero];first|done|rfl),.refl⟩
 ·rintro i fr K hi0 hi hA ⟨p49,xK⟩
  have p47:=hA 47 rfl
  have p48:=hA 48 rfl
  try simp (disch:=first|exact dq|fail) only [go_sem,↓reduceIte] at p47 p48
  have hlt:((i:Int)<16)=True:=eq_true (by omega)
  obtain ⟨l,el⟩:∃ l,l=limL.getD i []:=⟨_,rfl⟩
  obtain ⟨hl0',hl6⟩:=lim_len hi
  rw [← el] at hl0' hl6
  have iL:Ints K (.slice (some ⟨h.length+i,0,0⟩) l.length l.length) l:=by rw [el];exact (lim i hi).ext xK
  obtain ⟨lv,elv⟩:∃ lv,lv=AVal.slice (some ⟨h.length+i,0,0⟩) l.length l.length:=⟨_,rfl⟩
  rw [← elv] at iL
  have olv:=iL.one
  have gCK:=xK.get gC
  have adL:indexAddrA prog 104 (.slice (some ⟨h.length+16,0,0⟩) 16 16) (.int .i64 (i:Int))=some (.ptr (some ⟨h.length+16,0,i⟩)):=by
   rw [adr_sl Fc.el104 Fc.ar104 (by omega) (by omega),Int.toNat_natCast,Nat.mul_one,Nat.zero_add]
  have ldL:loadP prog K 36 (.ptr (some ⟨h.length+16,0,i⟩))=some lv:=by
   rw [load_eq,Fc.ty36,gCK,ldB_cell,lim_at hi,elv,el]
  have hhK:=(x1.trans xK).len
  obtain ⟨K1,eK1⟩:∃ K1,K1=K++[rowB [9223372036854775807,-9223372036854775808] 0]:=⟨_,rfl⟩
  have xK1:Ext K K1:=by rw [eK1];exact .app .refl
  have gK1:K1[K.length]?=some (rowE encI 3 [9223372036854775807,-9223372036854775808] 0):=by rw [eK1,rowE,flat_encI];exact get_eq rfl
  have oMM:Own encI 3 K.length K1 (.slice (some ⟨K.length,0,0⟩) 2 2) [9223372036854775807,-9223372036854775808]:=.inr ⟨K.length,0,rfl,gK1,Nat.le_refl _,by simp⟩
  obtain ⟨nv,H2,eA,oN,hl2,xE,on1⟩:=oMM.appendR (base:=h.length) (t:=36) (iL.ext xK1).rows Fc.el36 encI_sc (by omega) xK1.len hl0' (by simp;omega)
  have x2:Ext K H2:=xE K (Nat.le_refl _) xK1
  obtain ⟨q,eq⟩:∃ q,q=[9223372036854775807,-9223372036854775808]++l:=⟨_,rfl⟩
  rw [← eq] at oN
  have hql:q.length≤8:=by rw [eq];simp;omega
  have hqr:∀ n ∈ q,rng63 n:=fun n hn=>by
   rw [eq] at hn
   rcases List.mem_append.1 hn with hn|hn
   ·simp only [List.mem_cons,List.not_mem_nil,or_false] at hn
    rcases hn with rfl|rfl<;>exact ⟨by decide,by decide⟩
   ·exact iL.1.2 n hn
  have iN:Ints H2 nv q:=own_ints oN ⟨by omega,hqr⟩
  have hsp:=@Nat.succ_ne_zero;repeat' (first|simp (disch:=first|exact dq|fail) only [go_sem,↓reduceIte,hsp,p47,p48,p49,hlt,adL,ldL,bs2,← eK1,eA]|refine WP_drw ?_|refine cnd_intro (fun hsp=>?_) fun hsp=>?_)
  refine WP_count [(0,0),(5,12),(58,138)] 0 q.length (Nat.zero_le _) (fun _ k fr h'=>fr 58=.int .i64 (k:Int)∧Ext H2 h') ?_ ?_ ?_
  ·exact ⟨by (simp (disch:=first|exact dq|fail) only [go_sem,↓reduceIte,Int.natCast_zero];first|done|rfl),.refl⟩
  ·rintro k fr2 G hk0 hk hB ⟨d58,xG⟩
   have d2:=hB 2 rfl
   have d47:=hB 47 rfl
   have d48:=hB 48 rfl
   have d49:=hB 49 rfl
   have d56:=hB 56 rfl
   have d57:=hB 57 rfl
   try simp (disch:=first|exact dq|fail) only [go_sem,↓reduceIte,p47,p48,p49] at d2 d47 d48 d49 d56 d57
   have hlt2:((k:Int)<(q.length:Int))=True:=eq_true (by omega)
   have iG:=iN.ext xG
   have hn:=hqr _ (getD_in (d:=0) hk)
   obtain ⟨n,en⟩:∃ n,n=q.getD k 0:=⟨_,rfl⟩
   rw [← en] at hn
   have hhG:=((x1.trans xK).trans (x2.trans xG)).len
   have hR1:Rows encS (G++[rowE encS 56 [⟨1,3,3,true⟩] 0]) (.slice (some ⟨G.length,0,0⟩) 1 1) [⟨1,3,3,true⟩]:=Rows.own (get_eq rfl) rfl (by simp)
   obtain ⟨v,H3,e3,y3,A,B,P,S,w,sm⟩:=run_small (base:=h.length) (by simp;omega) hR1 (by simp)
   obtain ⟨hv,gA,gB,gP,gS,lo⟩:=sm
   simp only [List.length_append,List.length_cons,List.length_nil,Nat.reduceAdd,List.cons_append,List.nil_append] at hv gS lo
   subst hv
   have lS:=lt_of_get gS
   have xG3:Ext G H3:=(Ext.app .refl).trans y3
   obtain ⟨HC,eHC⟩:∃ HC,HC=H3++[lmB 2 4 (.slice (some ⟨P,0,0⟩) 2 2) (.slice (some ⟨S,w,0⟩) 3 3)]++[rowE encB 75 [(0,1,2),(1,2,3)] 0]++[brk3 1 1 2]++[sgt4 1 2 2 false]++[intB1 2]++[intB1 7]:=⟨_,rfl⟩
   have xC:Ext H3 HC:=by rw [eHC];exact .app (.app (.app (.app (.app (.app .refl)))))
   have hlC:HC.length=H3.length+6:=by rw [eHC];simp
   obtain ⟨HP,eHP⟩:∃ HP,HP=HC++[(⟨.cells [.ptr (some ⟨H3.length,0,0⟩),.ptr (some ⟨H3.length,0,1⟩),.ptr (some ⟨B,0,0⟩),.ptr (some ⟨P,0,5⟩),.ptr (some ⟨P,0,6⟩),.ptr (some ⟨S,w,0⟩),.ptr (some ⟨S,w,1⟩),.ptr (some ⟨S,w,2⟩),.ptr (some ⟨H3.length+2,0,0⟩),.ptr (some ⟨H3.length+2,0,1⟩),.ptr (some ⟨H3.length+2,0,2⟩),.ptr (some ⟨H3.length+1,0,0⟩),.ptr (some ⟨H3.length+1,0,5⟩),.ptr (some ⟨H3.length+3,0,0⟩),.ptr (some ⟨H3.length+4,0,0⟩),.ptr (some ⟨H3.length+5,0,0⟩)] 106 true false,0⟩:ABlk)]:=⟨_,rfl⟩
   have xP:Ext HC HP:=by rw [eHP];exact .app .refl
   have st0:StA HP dfl A B P S w H3.length:=by
    have x3P:=xC.trans xP
    refine ⟨xP.get ?_,x3P.get gA,x3P.get gB,x3P.get gP,x3P.get gS,xP.get ?_,xP.get ?_,xP.get ?_,xP.get ?_,xP.get ?_,by omega⟩
    all_goals (rw [eHC];(repeat' first|exact get_eq (by simp)|refine get_app ?_))
   obtain ⟨H4,eS,st1,hl4,xS⟩:=st0.store (base:=h.length) (n:=n) (by omega) hi
   have xG4:Ext G H4:=xS G (by omega) ((xG3.trans xC).trans xP)
   have gN:HC[H3.length]?=some (lmB 2 4 (.slice (some ⟨P,0,0⟩) 2 2) (.slice (some ⟨S,w,0⟩) 3 3)):=by rw [eHC];(repeat' first|exact get_eq (by simp)|refine get_app ?_)
   have dP1:loadP prog HC 36 (.ptr (some ⟨P,0,4⟩))=some (.slice (some ⟨B,0,0⟩) 2 2):=by rw [load_eq,Fc.ty36,xC.get gP,rowE,ldB_cell];rfl
   have adP:indexAddrA prog 107 (.slice (some ⟨HC.length,0,0⟩) 16 16) (.int .i64 (i:Int))=some (.ptr (some ⟨HC.length,0,i⟩)):=by
    rw [adr_sl Fc.el107 Fc.ar107 (by omega) (by omega),Int.toNat_natCast,Nat.mul_one,Nat.zero_add]
   have ldP:loadP prog HP 106 (.ptr (some ⟨HC.length,0,i⟩))=some (.ptr (some (tgt B P S w H3.length i))):=by
    rw [load_eq,Fc.ty106,eHP,get_eq rfl,ldB_cell]
    rcases (by omega:i=0 ∨ i=1 ∨ i=2 ∨ i=3 ∨ i=4 ∨ i=5 ∨ i=6 ∨ i=7 ∨ i=8 ∨ i=9 ∨ i=10 ∨ i=11 ∨ i=12 ∨ i=13 ∨ i=14 ∨ i=15) with e|e|e|e|e|e|e|e|e|e|e|e|e|e|e|e<;>subst e<;>rfl
   have iB:Ints HC (.slice (some ⟨B,0,0⟩) 2 2) [0,1]:=ints_rowB (xC.get gB) ⟨by simp,by simp⟩
   have bsB:∀ {lit:Bool} {A:Heap},bsA prog lit A 60 2 [(0,.agg [.int .i64 0,.int .i64 1,.int .i64 2]),(1,.agg [.int .i64 1,.int .i64 2,.int .i64 3])]=some (.slice (some ⟨A.length,0,0⟩) 2 2,A++[rowE encB 75 [(0,1,2),(1,2,3)] 0]):=fun {lit A}=>bsB2 (p:=(0,1,2)) (q:=(1,2,3))
   have sg1:∀ base H,callL prog raw base (.fn 54 [] []) [.int .i64 1,.int .i64 3,.int .i64 3,.bool true] H=some (.agg [.int .i64 1,.int .i64 3,.int .i64 3,.bool true],H):=fun base H=>run_sgt
   have sg2':∀ base H,callL prog raw base (.fn 54 [] []) [.int .i64 1,.int .i64 2,.int .i64 2,.bool false] H=some (.agg [.int .i64 1,.int .i64 2,.int .i64 2,.bool false],H):=fun base H=>run_sgt
   have bsS:∀ {lit:Bool} {A:Heap},bsA prog lit A 23 1 [(0,.agg [.int .i64 1,.int .i64 3,.int .i64 3,.bool true])]=some (.slice (some ⟨A.length,0,0⟩) 1 1,A++[rowE encS 56 [⟨1,3,3,true⟩] 0]):=fun {lit A}=>bsS1 (s:=⟨1,3,3,true⟩)
   have stk:=st1
   obtain ⟨gL,_,_,_,_,gR,gK,gG,gY,gZ,_⟩:=st1
   unfold lmB at gN gL
   unfold brk3 at gK
   unfold sgt4 at gG
   unfold intB1 at gY gZ
   unfold lmB brk3 sgt4 intB1 at eHC
   have LL:=stk.lom (upd_rng dfl_rng hn)
   have TT:=stk.truth
   have BV:BrkV H4 (.agg [.int .i64 (upd dfl i n 8),.int .i64 (upd dfl i n 9),.int .i64 (upd dfl i n 10)]):=⟨_,_,_,rfl⟩
   have SV:SgtV H4 (.agg [.int .i64 (upd dfl i n 13),.int .i64 2,.int .i64 2,.bool false]):=⟨⟨_,_,_,_⟩,rfl⟩
   have ask:=fun base x y p=>run_asked (base:=base) (x:=x) (y:=y) (p:=p) LL BV TT SV
   have hh4:h.length≤H4.length:=by have:=xG4.len;omega
   have fin:Ext H2 H4:=xG.trans xG4
   generalize tgt B P S w H3.length i=tg at ldP eS
   obtain ⟨id,ver,o⟩:=tg
   have eS':stQ h.length id (HP[id]?) ver o [.int .i64 n] (fun b=>HP.set id b)=some H4:=by
    rw [Fc.st3 ⟨rfl,rfl,rfl⟩] at eS
    cases hq:stQ h.length id (HP[id]?) ver o [.int .i64 n] (fun b=>HP.set id b) with
    | none=>rw [hq] at eS;cases eS
    | some X=>rw [hq] at eS;simp only [Option.map_some,Option.some.injEq,Prod.mk.injEq,true_and] at eS;rw [eS]
   clear eS st0
   have hsp:=@Nat.succ_ne_zero;repeat' (first|simp (disch:=first|exact dq|fail) only [go_sem,↓reduceIte,hsp,d2,d47,d48,d49,d56,d57,d58,p47,p48,p49,hlt2,← en,sg1,bsS,e3,bsB,sg2',← eHC,gN,dP1,bsP16,← eHP,adP,ldP,nck,eS']|refine WP_drw ?_|refine cnd_intro (fun hsp=>?_) fun hsp=>?_)
   refine WPS_restF fun Y eY=>?_
   rw [WP_region]
   have kY0:=congrFun eY 0
   have kY1:=congrFun eY 1
   have kY2:=congrFun eY 2
   have kY6:=congrFun eY 6
   have kY7:=congrFun eY 7
   have kY8:=congrFun eY 8
   have kY9:=congrFun eY 9
   have kY10:=congrFun eY 10
   have kY11:=congrFun eY 11
   have kY12:=congrFun eY 12
   have kY47:=congrFun eY 47
   have kY48:=congrFun eY 48
   have kY49:=congrFun eY 49
   have kY56:=congrFun eY 56
   have kY57:=congrFun eY 57
   have kY58:=congrFun eY 58
   try simp (disch:=first|exact dq|fail) only [go_sem,↓reduceIte,d2,d47,d48,d49,d56,d57,d58] at kY0 kY1 kY2 kY6 kY7 kY8 kY9 kY10 kY11 kY12 kY47 kY48 kY49 kY56 kY57 kY58
   have aY:Agree [(0,0),(5,12),(58,138)] Y fr2:=by rw [eY];exact agq
   clear eY
   by_cases c14:i=14
   ·have t14:((i:Int)=14)=True:=eq_true (by omega)
    have hsp:=@Nat.succ_ne_zero;repeat' (first|simp (disch:=first|exact dq|fail) only [go_sem,↓reduceIte,hsp,kY0,kY1,kY2,kY6,kY7,kY8,kY9,kY10,kY11,kY12,kY47,kY48,kY49,kY56,kY57,kY58,d2,d47,d48,d49,d56,d57,d58,p47,p48,p49,t14,gL,gR,gK,gG,gY,gZ,ask]|refine WP_drw ?_|refine cnd_intro (fun hsp=>?_) fun hsp=>?_)
    exact ⟨agq,by omega,fin⟩
   ·have t14:((i:Int)=14)=False:=eq_false (by omega)
    have hsp:=@Nat.succ_ne_zero;repeat' (first|simp (disch:=first|exact dq|fail) only [go_sem,↓reduceIte,hsp,kY0,kY1,kY2,kY6,kY7,kY8,kY9,kY10,kY11,kY12,kY47,kY48,kY49,kY56,kY57,kY58,d2,d47,d48,d49,d56,d57,d58,p47,p48,p49,t14,gL,gR,gK,gG,gY,gZ,ask]|refine WP_drw ?_|refine cnd_intro (fun hsp=>?_) fun hsp=>?_)
    exact ⟨agq,by omega,fin⟩
  ·rintro fr2 G hB ⟨d58,xG⟩
   have d2:=hB 2 rfl
   have d47:=hB 47 rfl
   have d48:=hB 48 rfl
   have d49:=hB 49 rfl
   have d56:=hB 56 rfl
   have d57:=hB 57 rfl
   try simp (disch:=first|exact dq|fail) only [go_sem,↓reduceIte,p47,p48,p49] at d2 d47 d48 d49 d56 d57
   have hlt2:((q.length:Int)<(q.length:Int))=False:=eq_false (by omega)
   have hsp:=@Nat.succ_ne_zero;repeat' (first|simp (disch:=first|exact dq|fail) only [go_sem,↓reduceIte,hsp,d2,d47,d48,d49,d56,d57,d58,p47,p48,p49,hlt2]|refine WP_drw ?_|refine cnd_intro (fun hsp=>?_) fun hsp=>?_)
   exact ⟨agq,by omega,xK.trans (x2.trans xG)⟩
 ·rintro fr0 K hA0 ⟨p49,xK0⟩
  have p47:=hA0 47 rfl
  have p48:=hA0 48 rfl
  try simp (disch:=first|exact dq|fail) only [go_sem,↓reduceIte] at p47 p48
  have x1K:=x1.trans xK0
  have hlt0:((((16:Nat):Int))<16)=False:=eq_false (by omega)
  have hsp:=@Nat.succ_ne_zero;repeat' (first|simp (disch:=first|exact dq|fail) only [go_sem,↓reduceIte,hsp,p49,p47,p48,hlt0]|refine WP_drw ?_|refine cnd_intro (fun hsp=>?_) fun hsp=>?_)
  refine WP_count [(0,282)] 0 70 (Nat.zero_le _) (fun _ o fr h'=>fr 140=.int .i64 (o:Int)∧Ext K h') ?_ ?_ ?_
  ·exact ⟨by (simp (disch:=first|exact dq|fail) only [go_sem,↓reduceIte,Int.natCast_zero];first|done|rfl),.refl⟩
  ·rintro o fr1 G ho0 ho hB ⟨d140,xG⟩
   have hlt:((o:Int)<70)=True:=eq_true (by omega)
   have xhG:=x1K.trans xG
   have hhG:=xhG.len
   obtain ⟨a3,ea3,la3⟩:∃ a,a=o % 3∧a<3:=⟨_,rfl,Nat.mod_lt _ (by decide)⟩
   obtain ⟨o2,eo2,lo2⟩:∃ a,a=o / 2∧a≤70:=⟨_,rfl,by omega⟩
   obtain ⟨o3,eo3,lo3⟩:∃ a,a=o / 3∧a≤70:=⟨_,rfl,by omega⟩
   obtain ⟨c3,ec3,lc3⟩:∃ a,a=o2 % 3∧a<3:=⟨_,rfl,Nat.mod_lt _ (by decide)⟩
   obtain ⟨o6,eo6,lo6⟩:∃ a,a=o % 6∧a<6:=⟨_,rfl,Nat.mod_lt _ (by decide)⟩
   have m3:(o:Int).tmod 3=(a3:Int):=by rw [ea3];rfl
   have d2:(o:Int).tdiv 2=(o2:Int):=by rw [eo2];rfl
   have d3:(o:Int).tdiv 3=(o3:Int):=by rw [eo3];rfl
   have m23:(o2:Int).tmod 3=(c3:Int):=by rw [ec3];rfl
   have m6:(o:Int).tmod 6=(o6:Int):=by rw [eo6];rfl
   obtain ⟨G0,eG0⟩:∃ G0,G0=G++[lmB (1+(a3:Int)) (2+(a3:Int)) (.slice none 0 0) (.slice none 0 0)]:=⟨_,rfl⟩
   have gN0:G0[G.length]?=some (lmB (1+(a3:Int)) (2+(a3:Int)) (.slice none 0 0) (.slice none 0 0)):=by rw [eG0];exact get_eq rfl
   have xG0:Ext G G0:=by rw [eG0];exact .app .refl
   have lG0:G0.length=G.length+1:=by rw [eG0];simp
   unfold lmB at eG0
   have hsp:=@Nat.succ_ne_zero;repeat' (first|simp (disch:=first|exact dq|fail) only [go_sem,↓reduceIte,hsp,d2,d47,d48,d49,d56,d57,d58,d140,hlt,m3,d2,m23,← eG0]|refine WP_drw ?_|refine cnd_intro (fun hsp=>?_) fun hsp=>?_)
   refine WP_count [(15,16),(154,202)] 0 (1+c3) (Nat.zero_le _) (fun _ n fr h'=>fr 154=.int .i64 (n:Int)∧Ext G h'∧∃ pv ps,h'[G.length]?=some (lmB (1+(a3:Int)) (2+(a3:Int)) pv (.slice none 0 0))∧OwnQ (G.length+1) h' pv ps∧ps.length=n∧∀ p ∈ ps,Small p.rib∧p.rib.length≤2) ?_ ?_ ?_
   ·exact ⟨by (simp (disch:=first|exact dq|fail) only [go_sem,↓reduceIte,Int.natCast_zero];first|done|rfl),xG0,.slice none 0 0,[],gN0,OwnQ.nil,rfl,fun p hp=>by cases hp⟩
   ·rintro n fr2 H hn0 hn hC ⟨e154,xH,pv,ps,gN,oQ,hps,hpr⟩
    have e0:=hC 0 rfl
    have e13:=hC 13 rfl
    have e14:=hC 14 rfl
    have e140:=hC 140 rfl
    have e153:=hC 153 rfl
    try simp (disch:=first|exact dq|fail) only [go_sem,↓reduceIte,d140] at e0 e13 e14 e140 e153
    have hltn:((n:Int)<1+(c3:Int))=True:=eq_true (by omega)
    have hHl:=(xhG.trans xH).len
    have lN:=lt_of_get gN
    have opv:=oQ.one
    obtain ⟨rb,erb,lrb⟩:∃ a,a=(o+n) % (1+a3)∧a<3:=⟨_,rfl,Nat.lt_of_lt_of_le (Nat.mod_lt _ (by omega)) (by omega)⟩
    obtain ⟨w3,ew3,lw3⟩:∃ a,a=(o+2 * n) % 3∧a<3:=⟨_,rfl,Nat.mod_lt _ (by decide)⟩
    obtain ⟨ph,eph,lph⟩:∃ a,a=o3 % (1+w3)∧a<3:=⟨_,rfl,Nat.lt_of_lt_of_le (Nat.mod_lt _ (by omega)) (by omega)⟩
    obtain ⟨wv,ewv⟩:∃ w:Bool,w=decide (((o:Int)+(n:Int)).tmod 2=0):=⟨_,rfl⟩
    have mrb:((o:Int)+(n:Int)).tmod (1+(a3:Int))=(rb:Int):=by rw [erb];exact tmodI (by omega) (by omega)
    have mw3:((o:Int)+2 * (n:Int)).tmod 3=(w3:Int):=by rw [ew3];exact tmodI (by omega) rfl
    have mph:(o3:Int).tmod (1+(w3:Int))=(ph:Int):=by rw [eph];exact tmodI rfl (by omega)
    have g1:∀ {a:ABlk},(H++[a])[G.length]?=_:=fun {a}=>get_app gN
    have iR:Ints (H++[rowB [(rb:Int)] 0]) (.slice (some ⟨H.length,0,0⟩) 1 1) [(rb:Int)]:=ints_rowB (get_eq rfl) ⟨by simp,by simp;omega⟩
    obtain ⟨X,eX⟩:∃ X,X=H++[rowB [(rb:Int)] 0]++[prB (.slice (some ⟨H.length,0,0⟩) 1 1) (1+(w3:Int)) ph wv]:=⟨_,rfl⟩
    have lX:X.length=H.length+2:=by rw [eX];simp
    have xX:Ext H X:=by rw [eX];exact .app (.app .refl)
    have gPX:X[H.length+1]?=some (prB (.slice (some ⟨H.length,0,0⟩) 1 1) (1+(w3:Int)) ph wv):=by rw [eX];exact get_eq (by simp)
    have iX:Ints X (.slice (some ⟨H.length,0,0⟩) 1 1) [(rb:Int)]:=by rw [eX];exact iR.app
    have oX:OwnE encI 3 (G.length+1) X (.slice (some ⟨H.length,0,0⟩) 1 1) [(rb:Int)]:=own1 (by rw [eX];exact get_app (get_eq rfl)) (by omega)
    have gNX:=xX.get gN
    have ldR:ldB (some (false,1)) X[H.length]? 0 0=some (.int .i64 (rb:Int)):=by rw [show X[H.length]?=some (rowB [(rb:Int)] 0) by rw [eX];exact get_app (get_eq rfl),rowB,ldB_cell];rfl
    have oQX:=oQ.ext xX
    have xGX:=xH.trans xX
    have smR:Small [(rb:Int)]:=⟨by simp,by simp;omega⟩
    by_cases cc:0<n∧0<rb
    ·have t1:((n:Int) > 0)=True:=eq_true (by omega)
     have t2:((rb:Int) > 0)=True:=eq_true (by omega)
     have o0:Own encI 3 X.length (X++[rowB [0] 0]) (.slice (some ⟨X.length,0,0⟩) 1 1) [0]:=.inr ⟨X.length,0,rfl,by rw [rowE,flat_encI];exact get_eq rfl,Nat.le_refl _,by simp⟩
     obtain ⟨r2,H3,eA,oR,hl3,xE3,or2,kp⟩:=o0.appendRX (P:=prog) (base:=h.length) (t:=36) iX.app.rows Fc.el36 encI_sc (by omega) (by simp) (by simp) (by simp)
     have kp3:KeepO encI 3 (X++[rowB [0] 0]) H3:=kp
     simp only [List.length_append,List.length_cons,List.length_nil] at hl3
     have xX3:Ext X H3:=xE3 X (Nat.le_refl _) (.app .refl)
     have gP3:=xX3.get gPX
     have gN3:=xX3.get gNX
     obtain ⟨Y,eY⟩:∃ Y,Y=H3.set (H.length+1) (prB r2 (1+(w3:Int)) ph wv):=⟨_,rfl⟩
     have lY:Y.length=H3.length:=by rw [eY,List.length_set]
     have gPY:Y[H.length+1]?=some (prB r2 (1+(w3:Int)) ph wv):=by rw [eY,List.getElem?_set_self (by omega)]
     have gNY:Y[G.length]?=some (lmB (1+(a3:Int)) (2+(a3:Int)) pv (.slice none 0 0)):=by rw [eY,List.getElem?_set_ne (by omega)];exact gN3
     have oQY:OwnQ (G.length+1) Y pv ps:=by rw [eY];exact (oQX.ext xX3).setBox gP3
     have oRY:OwnE encI 3 (G.length+1) Y r2 [0,(rb:Int)]:=by rw [eY];exact .inl ((oR.low (by omega)).setBox gP3)
     have xGY:Ext G Y:=by rw [eY];exact (xGX.trans xX3).set (by omega)
     have smR2:Small [0,(rb:Int)]:=⟨by simp,by simp;omega⟩
     obtain ⟨v',h',a1',a2,a3',a4,a5,a6⟩:=(oQY.ext (.app (t:=[rowE encP 81 [⟨r2,1+(w3:Int),ph,wv⟩] 0]) .refl)).snoc (base:=h.length) (p:=⟨[0,(rb:Int)],1+(w3:Int),ph,wv⟩) (oRY.ext (.app .refl)) (by omega) (by simp;omega) (by omega) (by simp)
     rw [List.length_append,List.length_cons,List.length_nil,Nat.zero_add,Nat.add_sub_cancel] at a1'
     have gL3:=a6.box (i:=G.length) (get_app gNY)
     have gL3':=gL3
     have bsW:=fun lit=>bsPx (lit:=lit) (H:=Y) (a:=1+(w3:Int)) (b:=ph) (d:=wv) or2
     simp only [List.length_append,List.length_cons,List.length_nil] at a3'
     unfold prB at eX gPX gP3 eY gPY
     unfold lmB at gN g1 gNX gN3 gNY gL3
     have hsp:=@Nat.succ_ne_zero;repeat' (first|simp (disch:=first|exact dq|fail) only [go_sem,↓reduceIte,hsp,e0,e13,e14,e140,e153,e154,d2,d47,d48,d49,d56,d57,d58,d140,hltn,m3,d2,m23,gN,g1,mrb,mw3,← ewv,bs1I,d3,mph,← eX,gPX,gNX,ldR,t1,t2,eA,gP3,gN3,← eY,gPY,gNY,bsW,a1',gL3]|refine WP_drw ?_|refine cnd_intro (fun hsp=>?_) fun hsp=>?_)
     refine ⟨agq,by omega,(a4 _ (by omega) (xGY.trans (.app .refl))).set (Nat.le_refl _),v',_,rfl,a2.setBox gL3',by simp [hps],?_⟩
     intro p hp
     rcases List.mem_append.1 hp with hp|hp
     ·exact hpr p hp
     ·cases List.mem_singleton.1 hp;exact ⟨smR2,by simp⟩
    ·obtain ⟨v',h',a1',a2,a3',a4,a5,a6⟩:=(oQX.ext (.app (t:=[rowE encP 81 [⟨.slice (some ⟨H.length,0,0⟩) 1 1,1+(w3:Int),ph,wv⟩] 0]) .refl)).snoc (base:=h.length) (p:=⟨[(rb:Int)],1+(w3:Int),ph,wv⟩) (oX.ext (.app .refl)) (by omega) (by simp;omega) (by omega) (by simp)
     rw [List.length_append,List.length_cons,List.length_nil,Nat.zero_add,Nat.add_sub_cancel] at a1'
     have gL3:=a6.box (i:=G.length) (get_app gNX)
     have gL3':=gL3
     have bsW:=fun lit=>bsPx (lit:=lit) (H:=X) (r:=.slice (some ⟨H.length,0,0⟩) 1 1) (a:=1+(w3:Int)) (b:=ph) (d:=wv) ⟨rfl,rfl,rfl⟩
     simp only [List.length_append,List.length_cons,List.length_nil] at a3'
     unfold prB at eX gPX
     unfold lmB at gN g1 gNX gL3
     by_cases c0:0<n
     ·have t1:((n:Int) > 0)=True:=eq_true (by omega)
      have t2:((rb:Int) > 0)=False:=eq_false (by omega)
      have hsp:=@Nat.succ_ne_zero;repeat' (first|simp (disch:=first|exact dq|fail) only [go_sem,↓reduceIte,hsp,e0,e13,e14,e140,e153,e154,d2,d47,d48,d49,d56,d57,d58,d140,hltn,m3,d2,m23,gN,g1,mrb,mw3,← ewv,bs1I,d3,mph,← eX,gPX,gNX,ldR,t1,t2,bsW,a1',gL3]|refine WP_drw ?_|refine cnd_intro (fun hsp=>?_) fun hsp=>?_)
      refine ⟨agq,by omega,(a4 _ (by omega) (xGX.trans (.app .refl))).set (Nat.le_refl _),v',_,rfl,a2.setBox gL3',by simp [hps],?_⟩
      intro p hp
      rcases List.mem_append.1 hp with hp|hp
      ·exact hpr p hp
      ·cases List.mem_singleton.1 hp;exact ⟨smR,by simp⟩
     ·have t1:((n:Int) > 0)=False:=eq_false (by omega)
      have hsp:=@Nat.succ_ne_zero;repeat' (first|simp (disch:=first|exact dq|fail) only [go_sem,↓reduceIte,hsp,e0,e13,e14,e140,e153,e154,d2,d47,d48,d49,d56,d57,d58,d140,hltn,m3,d2,m23,gN,g1,mrb,mw3,← ewv,bs1I,d3,mph,← eX,gPX,gNX,t1,bsW,a1',gL3]|refine WP_drw ?_|refine cnd_intro (fun hsp=>?_) fun hsp=>?_)
      refine ⟨agq,by omega,(a4 _ (by omega) (xGX.trans (.app .refl))).set (Nat.le_refl _),v',_,rfl,a2.setBox gL3',by simp [hps],?_⟩
      intro p hp
      rcases List.mem_append.1 hp with hp|hp
      ·exact hpr p hp
      ·cases List.mem_singleton.1 hp;exact ⟨smR,by simp⟩
   ·rintro fr2 H hC ⟨e154,xH,pv,ps,gN,oQ,hps,hpr⟩
    have e0:=hC 0 rfl
    have e13:=hC 13 rfl
    have e14:=hC 14 rfl
    have e140:=hC 140 rfl
    have e153:=hC 153 rfl
    try simp (disch:=first|exact dq|fail) only [go_sem,↓reduceIte,d140] at e0 e13 e14 e140 e153
    rw [show ((1+c3:Nat):Int)=1+(c3:Int) by omega] at e154
    have hltn:(1+(c3:Int)<1+(c3:Int))=False:=eq_false (by omega)
    have hsp:=@Nat.succ_ne_zero;repeat' (first|simp (disch:=first|exact dq|fail) only [go_sem,↓reduceIte,hsp,e0,e13,e14,e140,e153,e154,d2,d47,d48,d49,d56,d57,d58,d140,hltn,m6]|refine WP_drw ?_|refine cnd_intro (fun hsp=>?_) fun hsp=>?_)
    refine WP_count [(17,18),(205,246)] 0 o6 (Nat.zero_le _) (fun _ n fr h'=>fr 205=.int .i64 (n:Int)∧Ext G h'∧∃ sv ss,h'[G.length]?=some (lmB (1+(a3:Int)) (2+(a3:Int)) pv sv)∧OwnQ (G.length+1) h' pv ps∧Own encS 56 (G.length+1) h' sv ss∧ss.length=n) ?_ ?_ ?_
    ·exact ⟨by (simp (disch:=first|exact dq|fail) only [go_sem,↓reduceIte,Int.natCast_zero];first|done|rfl),xH,.slice none 0 0,[],gN,oQ,Own.nil,rfl⟩
    ·rintro n fr3 J hn0 hn hD ⟨k205,xJ,sv,ss,gNJ,oQJ,oS,hss⟩
     have k0:=hD 0 rfl
     have k13:=hD 13 rfl
     have k14:=hD 14 rfl
     have k140:=hD 140 rfl
     have k204:=hD 204 rfl
     try simp (disch:=first|exact dq|fail) only [go_sem,↓reduceIte,e0,e13,e14,e140] at k0 k13 k14 k140 k204
     have hltn:((n:Int)<(o6:Int))=True:=eq_true (by omega)
     have hJl:=(xhG.trans xJ).len
     have lN:=lt_of_get gNJ
     have opv:=oQJ.one
     have osv:=oS.one
     obtain ⟨at',eat,lat⟩:∃ a,a=(o+n) % (2+a3)∧a<5:=⟨_,rfl,Nat.lt_of_lt_of_le (Nat.mod_lt _ (by omega)) (by omega)⟩
     obtain ⟨u,eu,lu⟩:∃ a,a=o / (n+1)∧a≤70:=⟨_,rfl,Nat.le_trans (Nat.div_le_self _ _) (by omega)⟩
     obtain ⟨m,em,lm⟩:∃ a,a=o * (n+1)∧a≤70 * 6:=⟨_,rfl,Nat.mul_le_mul (by omega) (by omega)⟩
     obtain ⟨r1,er1,lr1⟩:∃ a,a=u % (1+a3)∧a<3:=⟨_,rfl,Nat.lt_of_lt_of_le (Nat.mod_lt _ (by omega)) (by omega)⟩
     obtain ⟨p2,ep2,lp2⟩:∃ a,a=(o+n) % 2∧a<2:=⟨_,rfl,Nat.mod_lt _ (by decide)⟩
     have mat:((o:Int)+(n:Int)).tmod (2+(a3:Int))=(at':Int):=by rw [eat];exact tmodI (by omega) (by omega)
     have mu:(o:Int).tdiv ((n:Int)+1)=(u:Int):=by rw [eu];exact tdivI rfl (by omega)
     have mm:(o:Int) * ((n:Int)+1)=(m:Int):=by rw [em,Int.natCast_mul];rfl
     have mr1:(u:Int).tmod (1+(a3:Int))=(r1:Int):=by rw [er1];exact tmodI rfl (by omega)
     have mp2:((o:Int)+(n:Int)).tmod 2=(p2:Int):=by rw [ep2];exact tmodI (by omega) rfl
     obtain ⟨hi',ehi⟩:∃ z:Int,z=min (2+(a3:Int)-1) ((at':Int)+(p2:Int)):=⟨_,rfl⟩
     obtain ⟨bd,ebd⟩:∃ w:Bool,w=decide (((m:Int)+(n:Int)).tmod 3 > 0):=⟨_,rfl⟩
     have hR1:Rows encS (J++[rowE encS 56 [⟨(r1:Int),(at':Int),hi',bd⟩] 0]) (.slice (some ⟨J.length,0,0⟩) 1 1) [⟨(r1:Int),(at':Int),hi',bd⟩]:=Rows.own (get_eq rfl) rfl (by simp)
     obtain ⟨v',J',eA,oS',hl',xE,ov',kp⟩:=(oS.app (T:=[rowE encS 56 [⟨(r1:Int),(at':Int),hi',bd⟩] 0])).appendRX (P:=prog) (base:=h.length) (t:=23) hR1 Fc.el23 encS_sc (by omega) (by simp;omega) (by simp) (by simp;omega)
     have kp':KeepO encS 56 (J++[rowE encS 56 [⟨(r1:Int),(at':Int),hi',bd⟩] 0]) J':=kp
     have gN':=kp'.box (get_app gNJ)
     have oQ':OwnQ (G.length+1) J' pv ps:=(oQJ.ext (.app .refl)).mapH (fun _ _ y=>kp'.own y (by decide)) fun _ _ y=>kp'.ownE y (by decide)
     have xJ':Ext G J':=xE G (by omega) (xJ.trans (.app .refl))
     have g1:∀ {a:ABlk},(J++[a])[G.length]?=_:=fun {a}=>get_app gNJ
     have gNJ0:=gNJ
     have gN0':=gN'
     unfold lmB at gNJ g1 gN'
     have lJ':=lt_of_get gN'
     have hsp:=@Nat.succ_ne_zero;repeat' (first|simp (disch:=first|exact dq|fail) only [go_sem,↓reduceIte,hsp,k0,k13,k14,k140,k204,k205,e0,e13,e14,e140,e153,e154,hltn,gNJ,g1,gN',mat,mu,mm,mr1,mp2,← ehi,← ebd,run_sgt',bsSx,eA]|refine WP_drw ?_|refine cnd_intro (fun hsp=>?_) fun hsp=>?_)
     refine ⟨agq,by omega,xJ'.set (by omega),v',_,?_,oQ'.setBox gN',oS'.setBox gN',by simp [hss]⟩
     rfl
    ·rintro fr3 J hD ⟨k205,xJ,sv,ss,gNJ,oQJ,oS,hss⟩
     have k0:=hD 0 rfl
     have k13:=hD 13 rfl
     have k14:=hD 14 rfl
     have k140:=hD 140 rfl
     have k204:=hD 204 rfl
     try simp (disch:=first|exact dq|fail) only [go_sem,↓reduceIte,e0,e13,e14,e140] at k0 k13 k14 k140 k204
     have hltn:((o6:Int)<(o6:Int))=False:=eq_false (by omega)
     have hJl:=(xhG.trans xJ).len
     have lN:=lt_of_get gNJ
     have opv:=oQJ.one
     have osv:=oS.one
     have hok:LomOk ⟨1+(a3:Int),2+(a3:Int),ps,ss⟩:=⟨fun p hp=>(hpr p hp).1,by show ps.length≤_;omega,by show ss.length≤_;omega,fun p _=>Int.le_refl _,fun p hp=>by have:=(hpr p hp).2;omega⟩
     have hLJ:LomAt J (lomV (1+(a3:Int)) (2+(a3:Int)) pv sv) ⟨1+(a3:Int),2+(a3:Int),ps,ss⟩:=⟨pv,sv,rfl,oQJ.parts (by omega) (fun p hp=>(hpr p hp).1),oS.rows (by omega)⟩
     obtain ⟨w1,J1,e1,y1,z,rfl,oz⟩:=run_fewestO (base:=h.length) (by omega) hLJ hok
     have ofz:=oz.one
     have hfl:=few_len (L:=⟨1+(a3:Int),2+(a3:Int),ps,ss⟩)
     obtain ⟨tl,etl⟩:∃ tl,tl=(fewM ⟨1+(a3:Int),2+(a3:Int),ps,ss⟩).1:=⟨_,rfl⟩
     rw [← etl] at oz hfl
     have xJ1:=xJ.trans y1
     have hy1:=y1.len
     have hN:∀ {X:Heap},Ext J X→LomN 1048576 X (lomV (1+(a3:Int)) (2+(a3:Int)) pv sv):=fun {X} x=>⟨_,hLJ.ext x,by show ps.length≤_;omega,by show ss.length≤_;omega,fun p hp=>by have:=(hpr p hp).2;omega⟩
     have gJ1:=y1.get gNJ
     unfold lmB at gNJ gJ1
     by_cases c4:(o:Int).tmod 4=0
     ·have t4:((o:Int).tmod 4=0)=True:=eq_true c4
      obtain ⟨v',J',eA,oZ',hl',xE,ov'⟩:=(oz.app (T:=[rowE encB 75 [((a3:Int),0,(o:Int).tmod 4)] 0])).appendR (base:=h.length) (t:=60) (x:=.slice (some ⟨J1.length,0,0⟩) 1 1) (m:=[((a3:Int),0,(o:Int).tmod 4)]) (Rows.own (get_eq rfl) rfl (by simp)) Fc.el60 encB_sc (by omega) (by simp;omega) (by simp) (by simp;omega)
      have xJJ:Ext J J':=xE J (Nat.le_refl _) (y1.trans (.app .refl))
      have hJJ:=xJJ.len
      have gJJ:=xJJ.get gNJ
      have ask:=fun base {v1 v3:AVal} (hB:BrkV J' v1) (hS:SgtV J' v3) {x y p:Int}=>run_asked (base:=base) (x:=x) (y:=y) (p:=p) (hN xJJ) hB ⟨_,oZ'.rows (by simp;omega),by simp;omega⟩ hS
      have ask':∀ base (a b:Int) (d:Bool) (x y p:Int),callL prog raw base (.fn 56 [] []) [lomV (1+(a3:Int)) (2+(a3:Int)) pv sv,.agg [.int .i64 a,.int .i64 b,.int .i64 1],v',.agg [.int .i64 0,.int .i64 1,.int .i64 1,.bool d],.int .i64 x,.int .i64 y,.int .i64 p] J'=some (.bool true,J'):=fun base a b d x y p=>ask base ⟨_,_,_,rfl⟩ ⟨⟨_,_,_,_⟩,rfl⟩
      have fin:=xG.trans (xJ.trans xJJ)
      have hsp:=@Nat.succ_ne_zero;repeat' (first|simp (disch:=first|exact dq|fail) only [go_sem,↓reduceIte,hsp,k0,k13,k14,k140,k204,k205,e0,e13,e14,e140,e153,e154,hltn,gNJ,e1,t4,m3,d2,bsB,eA,gJJ,run_sgt',ask',Bool.not_true,Bool.false_eq_true]|refine WP_drw ?_|refine cnd_intro (fun hsp=>?_) fun hsp=>?_)
      exact ⟨agq,by omega,fin⟩
     ·have t4:((o:Int).tmod 4=0)=False:=eq_false c4
      have ask:=fun base {v1 v3:AVal} (hB:BrkV J1 v1) (hS:SgtV J1 v3) {x y p:Int}=>run_asked (base:=base) (x:=x) (y:=y) (p:=p) (hN y1) hB ⟨tl,oz.rows (by omega),by omega⟩ hS
      have ask':∀ base (a b:Int) (d:Bool) (x y p:Int),callL prog raw base (.fn 56 [] []) [lomV (1+(a3:Int)) (2+(a3:Int)) pv sv,.agg [.int .i64 a,.int .i64 b,.int .i64 1],z,.agg [.int .i64 0,.int .i64 1,.int .i64 1,.bool d],.int .i64 x,.int .i64 y,.int .i64 p] J1=some (.bool true,J1):=fun base a b d x y p=>ask base ⟨_,_,_,rfl⟩ ⟨⟨_,_,_,_⟩,rfl⟩
      have fin:=xG.trans xJ1
      have hsp:=@Nat.succ_ne_zero;repeat' (first|simp (disch:=first|exact dq|fail) only [go_sem,↓reduceIte,hsp,k0,k13,k14,k140,k204,k205,e0,e13,e14,e140,e153,e154,hltn,gNJ,e1,t4,m3,d2,gJ1,run_sgt',ask',Bool.not_true,Bool.false_eq_true]|refine WP_drw ?_|refine cnd_intro (fun hsp=>?_) fun hsp=>?_)
      exact ⟨agq,by omega,fin⟩
  ·rintro fr1 G hB ⟨d140,xG⟩
   have hlt:((((70:Nat):Int))<70)=False:=eq_false (by omega)
   have hsp:=@Nat.succ_ne_zero;repeat' (first|simp (disch:=first|exact dq|fail) only [go_sem,↓reduceIte,hsp,d140,hlt]|refine WP_drw ?_|refine cnd_intro (fun hsp=>?_) fun hsp=>?_)
   refine WP_count [(0,403)] 0 14 (Nat.zero_le _) (fun _ a fr h'=>fr 283=.int .i64 (a:Int)∧Ext K h') ?_ ?_ ?_
   ·exact ⟨by (simp (disch:=first|exact dq|fail) only [go_sem,↓reduceIte,Int.natCast_zero];first|done|rfl),xG⟩
   ·rintro a fr2 H ha0 ha hC ⟨u283,xH⟩
    have hlt2:((a:Int)<14)=True:=eq_true (by omega)
    have xhH:=x1K.trans xH
    have hhH:=xhH.len
    obtain ⟨v1,S1,e1,y1,pv1,sv1,rfl,hp1,hs1⟩:=run_small0 (base:=h.length) (h:=H) hhH
    have hl1':=y1.len
    obtain ⟨v2,S2,e2,y2,pv2,sv2,rfl,hp2,hs2⟩:=run_small0 (base:=h.length) (h:=S1) (by omega)
    have hl2':=y2.len
    obtain ⟨v3,S3,e3,y3,pv3,sv3,rfl,hp3,hs3⟩:=run_small0 (base:=h.length) (h:=S2) (by omega)
    have hl3':=y3.len
    obtain ⟨v4,S4,e4,y4,pv4,sv4,rfl,hp4,hs4⟩:=run_small0 (base:=h.length) (h:=S3) (by omega)
    have hl4':=y4.len
    have op1:=hp1.one
    have os1:=hs1.one
    have op2:=hp2.one
    have os2:=hs2.one
    have op3:=hp3.one
    have os3:=hs3.one
    have op4:=hp4.one
    have os4:=hs4.one
    obtain ⟨N,eN⟩:∃ N,N=S4.length:=⟨_,rfl⟩
    obtain ⟨T0,eT0⟩:∃ T0,T0=S4++[lmB (a:Int) 4 pv1 sv1]++[lmB 2 (a:Int) pv2 sv2]++[lmB 2 4 (.slice none 0 0) sv3]++[lmB 2 4 pv4 (.slice none 0 0)]:=⟨_,rfl⟩
    have xT:Ext S4 T0:=by rw [eT0];exact .app (.app (.app (.app .refl)))
    have gT0:T0[N]?=some (lmB (a:Int) 4 pv1 sv1):=by rw [eT0,eN];exact get_app (get_app (get_app (get_eq rfl)))
    have gT1:T0[N+1]?=some (lmB 2 (a:Int) pv2 sv2):=by rw [eT0,eN];exact get_app (get_app (get_eq (by simp)))
    have gT2:T0[N+1+1]?=some (lmB 2 4 (.slice none 0 0) sv3):=by rw [eT0,eN];exact get_app (get_eq (by simp))
    have gT3:T0[N+1+1+1]?=some (lmB 2 4 pv4 (.slice none 0 0)):=by rw [eT0,eN];exact get_eq (by simp)
    have lT:T0.length=N+4:=by rw [eT0,eN];simp
    have emn:min (a:Int) 9=((min a 9:Nat):Int):=by omega
    obtain ⟨mn,emn'⟩:∃ mn,mn=min a 9:=⟨_,rfl⟩
    rw [← emn'] at emn
    unfold lmB at eT0
    have hsp:=@Nat.succ_ne_zero;repeat' (first|simp (disch:=first|exact dq|fail) only [go_sem,↓reduceIte,hsp,u283,hlt2,e1,e2,e3,e4,← eT0,emn,← eN]|refine WP_drw ?_|refine cnd_intro (fun hsp=>?_) fun hsp=>?_)
    refine WP_count [(26,26),(298,313)] 0 mn (Nat.zero_le _) (fun _ n fr h'=>fr 298=.int .i64 (n:Int)∧Ext S4 h'∧h'[N]?=some (lmB (a:Int) 4 pv1 sv1)∧h'[N+1]?=some (lmB 2 (a:Int) pv2 sv2)∧h'[N+1+1+1]?=some (lmB 2 4 pv4 (.slice none 0 0))∧∃ qv,h'[N+1+1]?=some (lmB 2 4 qv sv3)∧OwnQ (N+4) h' qv ((List.range n).map prtD)) ?_ ?_ ?_
    ·exact ⟨by (simp (disch:=first|exact dq|fail) only [go_sem,↓reduceIte,Int.natCast_zero];first|done|rfl),xT,gT0,gT1,gT3,.slice none 0 0,gT2,OwnQ.nil⟩
    ·rintro n fr3 J hn0 hn hD ⟨k298,xJ,gJ0,gJ1,gJ3,qv,gJ2,oQ⟩
     have k0:=hD 0 rfl
     have k21:=hD 21 rfl
     have k22:=hD 22 rfl
     have k23:=hD 23 rfl
     have k24:=hD 24 rfl
     have k25:=hD 25 rfl
     have k283:=hD 283 rfl
     have k297:=hD 297 rfl
     try simp (disch:=first|exact dq|fail) only [go_sem,↓reduceIte,u283] at k0 k21 k22 k23 k24 k25 k283 k297
     have hltn:((n:Int)<(mn:Int))=True:=eq_true (by omega)
     have hhJ:=(xhH.trans (y1.trans (y2.trans (y3.trans (y4.trans xJ))))).len
     have lJ:=lt_of_get gJ3
     have oqv:=oQ.one
     obtain ⟨d2,ed2,ld2⟩:∃ z,z=n % 2∧z<2:=⟨_,rfl,Nat.mod_lt _ (by decide)⟩
     have md2:(n:Int).tmod 2=(d2:Int):=by rw [ed2];rfl
     obtain ⟨w,ew⟩:∃ w:Bool,w=decide ((d2:Int)=0):=⟨_,rfl⟩
     obtain ⟨X,eX⟩:∃ X,X=J++[rowB [(d2:Int)] 0]++[(⟨.cells [.slice (some ⟨J.length,0,0⟩) 1 1,.int .i64 1,.int .i64 0,.bool w] 81 false false,0⟩:ABlk)]:=⟨_,rfl⟩
     have xX:Ext J X:=by rw [eX];exact .app (.app .refl)
     have lX:X.length=J.length+2:=by rw [eX];simp
     have oX:OwnE encI 3 (N+4) X (.slice (some ⟨J.length,0,0⟩) 1 1) [(d2:Int)]:=own1 (by rw [eX];exact get_app (get_eq rfl)) (by omega)
     have oQX:=oQ.ext xX
     have ePr:prtD n=⟨[(d2:Int)],1,0,w⟩:=by rw [ew,ed2];rfl
     obtain ⟨v',h',a1',a2,a3',a4,a5,a6⟩:=(oQX.ext (.app (t:=[rowE encP 81 [⟨.slice (some ⟨J.length,0,0⟩) 1 1,1,0,w⟩] 0]) .refl)).snoc (base:=h.length) (p:=⟨[(d2:Int)],1,0,w⟩) (oX.ext (.app .refl)) (by omega) (by simp;omega) (by simp;omega) (by simp)
     rw [List.length_append,List.length_cons,List.length_nil,Nat.zero_add,Nat.add_sub_cancel] at a1'
     have q0:=a6.box (i:=N) (get_app (xX.get gJ0))
     have q1:=a6.box (i:=N+1) (get_app (xX.get gJ1))
     have q2:=a6.box (i:=N+1+1) (get_app (xX.get gJ2))
     have q3:=a6.box (i:=N+1+1+1) (get_app (xX.get gJ3))
     have q2':=q2
     have lh':=lt_of_get q3
     have gX2:=xX.get gJ2
     have rt:=run_thread (base:=h.length) (h:=J++[rowB [(d2:Int)] 0]) (v:=.slice (some ⟨J.length,0,0⟩) 1 1) (w:=w) (by simp;omega) ⟨rfl,rfl,rfl⟩
     rw [← eX] at rt
     have extX:∀ A:Prop,extQ true (J++[rowB [(d2:Int)] 0]) X A=A:=fun A=>extQ_ext (by rw [eX];exact .app .refl)
     have bsW:=fun lit=>bsP1' (lit:=lit) (H:=X) (p:=⟨.slice (some ⟨J.length,0,0⟩) 1 1,1,0,w⟩)
     unfold lmB at gJ2 gX2 q2
     have hsp:=@Nat.succ_ne_zero;repeat' (first|simp (disch:=first|exact dq|fail) only [go_sem,↓reduceIte,hsp,k0,k21,k22,k23,k24,k25,k283,k297,k298,u283,hltn,gJ2,gX2,md2,← ew,bs1I,rt,bsW,a1',q2,extX]|refine WP_drw ?_|refine cnd_intro (fun hsp=>?_) fun hsp=>?_)
     refine ⟨agq,by omega,(a4 _ (by omega) ((xJ.trans xX).trans (.app .refl))).set (by omega),q0,q1,q3,v',rfl,?_⟩
     rw [List.map_append,List.map_cons,List.map_nil,ePr]
     exact a2.setBox q2'
    ·rintro fr3 J hD ⟨k298,xJ,gJ0,gJ1,gJ3,qv,gJ2,oQ⟩
     have k0:=hD 0 rfl
     have k21:=hD 21 rfl
     have k22:=hD 22 rfl
     have k23:=hD 23 rfl
     have k24:=hD 24 rfl
     have k25:=hD 25 rfl
     have k283:=hD 283 rfl
     have k297:=hD 297 rfl
     try simp (disch:=first|exact dq|fail) only [go_sem,↓reduceIte,u283] at k0 k21 k22 k23 k24 k25 k283 k297
     have hltn:((mn:Int)<(mn:Int))=False:=eq_false (by omega)
     have hsp:=@Nat.succ_ne_zero;repeat' (first|simp (disch:=first|exact dq|fail) only [go_sem,↓reduceIte,hsp,k0,k21,k22,k23,k24,k25,k283,k297,k298,u283,hltn]|refine WP_drw ?_|refine cnd_intro (fun hsp=>?_) fun hsp=>?_)
     refine WP_count [(27,27),(315,333)] 0 a (Nat.zero_le _) (fun _ n fr h'=>fr 315=.int .i64 (n:Int)∧Ext S4 h'∧h'[N]?=some (lmB (a:Int) 4 pv1 sv1)∧h'[N+1]?=some (lmB 2 (a:Int) pv2 sv2)∧h'[N+1+1]?=some (lmB 2 4 qv sv3)∧OwnQ (N+4) h' qv ((List.range mn).map prtD)∧∃ tv,h'[N+1+1+1]?=some (lmB 2 4 pv4 tv)∧Own encS 56 (N+4) h' tv ((List.range n).map sgtD)) ?_ ?_ ?_
     ·exact ⟨by (simp (disch:=first|exact dq|fail) only [go_sem,↓reduceIte,Int.natCast_zero];first|done|rfl),xJ,gJ0,gJ1,gJ2,oQ,.slice none 0 0,gJ3,Own.nil⟩
     ·rintro n fr4 M hn0 hn hE ⟨m315,xM,gM0,gM1,gM2,oQM,tv,gM3,oS⟩
      have m0:=hE 0 rfl
      have m21:=hE 21 rfl
      have m22:=hE 22 rfl
      have m23:=hE 23 rfl
      have m24:=hE 24 rfl
      have m25:=hE 25 rfl
      have m283:=hE 283 rfl
      have m314:=hE 314 rfl
      try simp (disch:=first|exact dq|fail) only [go_sem,↓reduceIte,k0,k0,k21,k21,k22,k22,k23,k23,k24,k24,k25,k25,k283,k283] at m0 m21 m22 m23 m24 m25 m283 m314
      have hltn:((n:Int)<(a:Int))=True:=eq_true (by omega)
      have hhM:=(xhH.trans (y1.trans (y2.trans (y3.trans (y4.trans xM))))).len
      have lM:=lt_of_get gM3
      have otv:=oS.one
      have oqv:=oQM.one
      obtain ⟨d2,ed2,ld2⟩:∃ z,z=n % 2∧z<2:=⟨_,rfl,Nat.mod_lt _ (by decide)⟩
      obtain ⟨d4,ed4,ld4⟩:∃ z,z=n % 4∧z<4:=⟨_,rfl,Nat.mod_lt _ (by decide)⟩
      obtain ⟨d3',ed3,ld3⟩:∃ z,z=n % 3∧z<3:=⟨_,rfl,Nat.mod_lt _ (by decide)⟩
      have md2:(n:Int).tmod 2=(d2:Int):=by rw [ed2];rfl
      have md4:(n:Int).tmod 4=(d4:Int):=by rw [ed4];rfl
      have md3:(n:Int).tmod 3=(d3':Int):=by rw [ed3];rfl
      obtain ⟨w,ew⟩:∃ w:Bool,w=decide ((d3':Int)=0):=⟨_,rfl⟩
      have eSg:sgtD n=⟨(d2:Int),(d4:Int),(d4:Int),w⟩:=by rw [ew,ed2,ed3,ed4];rfl
      have hR1:Rows encS (M++[rowE encS 56 [⟨(d2:Int),(d4:Int),(d4:Int),w⟩] 0]) (.slice (some ⟨M.length,0,0⟩) 1 1) [⟨(d2:Int),(d4:Int),(d4:Int),w⟩]:=Rows.own (get_eq rfl) rfl (by simp)
      obtain ⟨v',h',eA,oS',hl',xE,ov',kp⟩:=(oS.app (T:=[rowE encS 56 [⟨(d2:Int),(d4:Int),(d4:Int),w⟩] 0])).appendRX (P:=prog) (base:=h.length) (t:=23) hR1 Fc.el23 encS_sc (by omega) (by simp;omega) (by simp) (by simp;omega)
      have kp':KeepO encS 56 (M++[rowE encS 56 [⟨(d2:Int),(d4:Int),(d4:Int),w⟩] 0]) h':=kp
      have q0:=kp'.box (i:=N) (get_app gM0)
      have q1:=kp'.box (i:=N+1) (get_app gM1)
      have q2:=kp'.box (i:=N+1+1) (get_app gM2)
      have q3:=kp'.box (i:=N+1+1+1) (get_app gM3)
      have q3':=q3
      have lh':=lt_of_get q3
      have oQ':OwnQ (N+4) h' qv ((List.range mn).map prtD):=(oQM.ext (.app .refl)).mapH (fun _ _ y=>kp'.own y (by decide)) fun _ _ y=>kp'.ownE y (by decide)
      have xM':Ext S4 h':=xE S4 (by omega) (xM.trans (.app .refl))
      have g1:∀ {b:ABlk},(M++[b])[N+1+1+1]?=_:=fun {b}=>get_app gM3
      unfold lmB at gM3 g1 q3
      have hsp:=@Nat.succ_ne_zero;repeat' (first|simp (disch:=first|exact dq|fail) only [go_sem,↓reduceIte,hsp,m0,m21,m22,m23,m24,m25,m283,m314,m315,k0,k21,k22,k23,k24,k25,k283,k297,k298,u283,hltn,gM3,g1,q3,md2,md4,md3,← ew,run_sgt',bsSx,eA]|refine WP_drw ?_|refine cnd_intro (fun hsp=>?_) fun hsp=>?_)
      refine ⟨agq,by omega,xM'.set (by omega),q0,q1,q2,oQ'.setBox q3',v',rfl,?_⟩
      rw [List.map_append,List.map_cons,List.map_nil,eSg]
      exact oS'.setBox q3'
     ·rintro fr4 M hE ⟨m315,xM,gM0,gM1,gM2,oQM,tv,gM3,oS⟩
      have m0:=hE 0 rfl
      have m21:=hE 21 rfl
      have m22:=hE 22 rfl
      have m23:=hE 23 rfl
      have m24:=hE 24 rfl
      have m25:=hE 25 rfl
      have m283:=hE 283 rfl
      have m314:=hE 314 rfl
      try simp (disch:=first|exact dq|fail) only [go_sem,↓reduceIte,k0,k0,k21,k21,k22,k22,k23,k23,k24,k24,k25,k25,k283,k283] at m0 m21 m22 m23 m24 m25 m283 m314
      have hltn:((a:Int)<(a:Int))=False:=eq_false (by omega)
      have otv:=oS.one
      have oqv:=oQM.one
      have lM:=lt_of_get gM3
      have hhM:=(xhH.trans (y1.trans (y2.trans (y3.trans (y4.trans xM))))).len
      obtain ⟨M1,eM1⟩:∃ M1,M1=M++[loomRow ((a:Int),4,pv1,sv1) (2,(a:Int),pv2,sv2) (2,4,qv,sv3) (2,4,pv4,tv)]:=⟨_,rfl⟩
      have xM1:Ext M M1:=by rw [eM1];exact .app .refl
      have gR:M1[M.length]?=some (loomRow ((a:Int),4,pv1,sv1) (2,(a:Int),pv2,sv2) (2,4,qv,sv3) (2,4,pv4,tv)):=by rw [eM1];exact get_eq rfl
      have bsL:=fun lit (hl:lit=false)=>bsL4 (lit:=lit) (H:=M) (R1:=(a:Int)) (T1:=4) (p1:=pv1) (s1:=sv1) (R2:=2) (T2:=(a:Int)) (p2:=pv2) (s2:=sv2) (R3:=2) (T3:=4) (p3:=qv) (s3:=sv3) (R4:=2) (T4:=4) (p4:=pv4) (s4:=tv) hl
      rw [← eM1] at bsL
      unfold lmB at gM0 gM1 gM2 gM3
      have hsp:=@Nat.succ_ne_zero;repeat' (first|simp (disch:=first|exact dq|fail) only [go_sem,↓reduceIte,hsp,m0,m21,m22,m23,m24,m25,m283,m314,m315,k0,k21,k22,k23,k24,k25,k283,k297,k298,u283,hltn,gM0,gM1,gM2,gM3,bsL]|refine WP_drw ?_|refine cnd_intro (fun hsp=>?_) fun hsp=>?_)
      refine WP_count [(0,0),(28,29),(340,402)] 0 4 (Nat.zero_le _) (fun _ k fr h'=>fr 340=.int .i64 (k:Int)∧Ext M1 h') ?_ ?_ ?_
      ·exact ⟨by (simp (disch:=first|exact dq|fail) only [go_sem,↓reduceIte,Int.natCast_zero];first|done|rfl),.refl⟩
      ·rintro k fr5 W hk0 hk hF ⟨q340,xW⟩
       have q21:=hF 21 rfl
       have q283:=hF 283 rfl
       have q338:=hF 338 rfl
       have q339:=hF 339 rfl
       try simp (disch:=first|exact dq|fail) only [go_sem,↓reduceIte,m21,m283] at q21 q283 q338 q339
       have hltk:((k:Int)<4)=True:=eq_true (by omega)
       obtain ⟨⟨R,T,pv,sv⟩,ey,ldK⟩:=ldL4 (xW.get gR) hk
       dsimp only at ldK
       have x4W:=xM.trans (xM1.trans xW)
       have x3W:=y4.trans x4W
       have x2W:=y3.trans x3W
       have x1W:=y2.trans x2W
       have hhW:=(xhH.trans (y1.trans x1W)).len
       obtain ⟨LL,eLL,pLL,sLL,rLL,one1,one2⟩:∃ LL,LL=lomK a k∧Parts W pv LL.ps∧Rows encS W sv LL.ss∧(LL.R=R∧LL.T=T)∧One pv∧One sv:=by
        rcases (by omega:k=0 ∨ k=1 ∨ k=2 ∨ k=3) with c|c|c|c<;>subst c<;>cases ey
        ·exact ⟨_,rfl,hp1.ext x1W,hs1.ext x1W,⟨rfl,rfl⟩,op1,os1⟩
        ·exact ⟨_,rfl,hp2.ext x2W,hs2.ext x2W,⟨rfl,rfl⟩,op2,os2⟩
        ·refine ⟨_,rfl,?_,hs3.ext x3W,⟨rfl,rfl⟩,oqv,os3⟩
         have:=(oQM.ext (xM1.trans xW)).parts (by simp;omega) (fun p hp=>(prt_ok (.inr ⟨_,rfl⟩) p hp).1)
         rw [emn'] at this
         exact this
        ·exact ⟨_,rfl,hp4.ext x4W,(oS.ext (xM1.trans xW)).rows (by simp;omega),⟨rfl,rfl⟩,op4,otv⟩
       obtain ⟨ok1,ok2,ok3,ok4⟩:=lomK_ok (k:=k) ha hk
       rw [← eLL] at ok1 ok2 ok3 ok4
       obtain ⟨W1,eW1⟩:∃ W1,W1=W++[lmB R T pv sv]:=⟨_,rfl⟩
       have xW1:Ext W W1:=by rw [eW1];exact .app .refl
       have gW1:W1[W.length]?=some (lmB R T pv sv):=by rw [eW1];exact get_eq rfl
       have hLW:LomAt W1 (lomV R T pv sv) LL:=⟨pv,sv,by rw [rLL.1,rLL.2],pLL.ext xW1,sLL.ext xW1⟩
       have LN:LomN 1048576 W1 (lomV R T pv sv):=⟨LL,hLW,ok2,ok3,ok4⟩
       have IV:∀ n:Int,IntV W1 (.int .i64 n):=fun n=>⟨n,rfl⟩
       have c1:=fun base=>run_FaultLooms (base:=base) LN (v1:=.agg [.int .i64 1,.int .i64 0,.int .i64 1]) ⟨_,_,_,rfl⟩
       have c2:=fun base=>run_FaultTruths (base:=base) LN (v1:=.slice none 0 0) ⟨[],Rows.nil,by simp⟩ (v2:=.agg [.int .i64 0,.int .i64 0,.int .i64 0,.bool true]) ⟨⟨_,_,_,_⟩,rfl⟩
       have c3:=fun base=>run_FaultFewest (base:=base) LN (IV 0) (IV 1)
       have c4:=fun base=>run_FaultLasts (base:=base) LN (IV 0)
       have c5:=fun base=>run_FaultWeavers (base:=base) LN (IV 0) (IV 1)
       have c6:=fun base=>run_check' (base:=base) hLW ok1
       obtain ⟨c,ec⟩:∃ c,c=chkM LL:=⟨_,rfl⟩
       have hc:=lomK_chk (k:=k) ha hk
       rw [← eLL,← ec] at hc
       rw [← ec] at c6
       have ad4:=fun n=>adT4 (n:=n) hk
       have adL:=fun n=>adL4 (n:=n) hk
       have ld4:=fun H a b c d=>ldT4 (H:=H) (a:=a) (b:=b) (c:=c) (d:=d) hk
       have fin:Ext M1 W1:=xW.trans xW1
       unfold lmB at eW1 gW1
       obtain ⟨b1,f1⟩:∃ b:Bool,decide (1<a∧a<7)=b:=⟨_,rfl⟩
       obtain ⟨b2,f2⟩:∃ b:Bool,decide (2<a∧a<13)=b:=⟨_,rfl⟩
       obtain ⟨b3,f3⟩:∃ b:Bool,decide (0<a∧a<7)=b:=⟨_,rfl⟩
       obtain ⟨b4,f4⟩:∃ b:Bool,decide (a<11)=b:=⟨_,rfl⟩
       rw [tstL,f1,f2,f3,f4] at hc
       have g4:decide ((a:Int)<11)=b4:=by rw [← f4];exact decide_eq_decide.2 (by omega)
       rcases (by omega:a≤0 ∨ a=1 ∨ a=2 ∨ (3≤a∧a≤6) ∨ a=7 ∨ (8≤a∧a<13) ∨ a=13) with w|w|w|w|w|w|w
       ·have t1:((a:Int) > 1)=False:=eq_false (by omega)
        have t2:((a:Int) > 2)=False:=eq_false (by omega)
        have t0:((a:Int) > 0)=False:=eq_false (by omega)
        have t7:((a:Int)<7)=True:=eq_true (by omega)
        have t13:((a:Int)<13)=True:=eq_true (by omega)
        have t8:((a:Int)<8)=True:=eq_true (by omega)
        obtain rfl:b1=false:=by rw [← f1];exact decide_eq_false (by omega)
        obtain rfl:b2=false:=by rw [← f2];exact decide_eq_false (by omega)
        obtain rfl:b3=false:=by rw [← f3];exact decide_eq_false (by omega)
        have hsp:=@Nat.succ_ne_zero;repeat' (first|simp (disch:=first|exact dq|fail) only [go_sem,↓reduceIte,hsp,q21,q283,q338,q339,q340,m0,m21,m22,m23,m24,m25,m283,m314,m315,k0,k21,k22,k23,k24,k25,k283,k297,k298,u283,hltk,adL,ldK,← eW1,gW1,c1,c2,c3,c4,c5,c6,run_sgt',t1,t2,t0,t7,t13,t8,g4,hc,bsB4,ad4,ld4,neB,Bool.not_true,Bool.false_eq_true,eq_self,not_true,decide_false]|refine WP_drw ?_|refine cnd_intro (fun hsp=>?_) fun hsp=>?_)
        exact ⟨agq,by omega,fin.trans (.app .refl)⟩
       ·have t1:((a:Int) > 1)=False:=eq_false (by omega)
        have t2:((a:Int) > 2)=False:=eq_false (by omega)
        have t0:((a:Int) > 0)=True:=eq_true (by omega)
        have t7:((a:Int)<7)=True:=eq_true (by omega)
        have t13:((a:Int)<13)=True:=eq_true (by omega)
        have t8:((a:Int)<8)=True:=eq_true (by omega)
        obtain rfl:b1=false:=by rw [← f1];exact decide_eq_false (by omega)
        obtain rfl:b2=false:=by rw [← f2];exact decide_eq_false (by omega)
        obtain rfl:b3=true:=by rw [← f3];exact decide_eq_true (by omega)
        have hsp:=@Nat.succ_ne_zero;repeat' (first|simp (disch:=first|exact dq|fail) only [go_sem,↓reduceIte,hsp,q21,q283,q338,q339,q340,m0,m21,m22,m23,m24,m25,m283,m314,m315,k0,k21,k22,k23,k24,k25,k283,k297,k298,u283,hltk,adL,ldK,← eW1,gW1,c1,c2,c3,c4,c5,c6,run_sgt',t1,t2,t0,t7,t13,t8,g4,hc,bsB4,ad4,ld4,neB,Bool.not_true,Bool.false_eq_true,eq_self,not_true,decide_false]|refine WP_drw ?_|refine cnd_intro (fun hsp=>?_) fun hsp=>?_)
        exact ⟨agq,by omega,fin.trans (.app .refl)⟩
       ·have t1:((a:Int) > 1)=True:=eq_true (by omega)
        have t2:((a:Int) > 2)=False:=eq_false (by omega)
        have t0:((a:Int) > 0)=True:=eq_true (by omega)
        have t7:((a:Int)<7)=True:=eq_true (by omega)
        have t13:((a:Int)<13)=True:=eq_true (by omega)
        have t8:((a:Int)<8)=True:=eq_true (by omega)
        obtain rfl:b1=true:=by rw [← f1];exact decide_eq_true (by omega)
        obtain rfl:b2=false:=by rw [← f2];exact decide_eq_false (by omega)
        obtain rfl:b3=true:=by rw [← f3];exact decide_eq_true (by omega)
        have hsp:=@Nat.succ_ne_zero;repeat' (first|simp (disch:=first|exact dq|fail) only [go_sem,↓reduceIte,hsp,q21,q283,q338,q339,q340,m0,m21,m22,m23,m24,m25,m283,m314,m315,k0,k21,k22,k23,k24,k25,k283,k297,k298,u283,hltk,adL,ldK,← eW1,gW1,c1,c2,c3,c4,c5,c6,run_sgt',t1,t2,t0,t7,t13,t8,g4,hc,bsB4,ad4,ld4,neB,Bool.not_true,Bool.false_eq_true,eq_self,not_true,decide_false]|refine WP_drw ?_|refine cnd_intro (fun hsp=>?_) fun hsp=>?_)
        exact ⟨agq,by omega,fin.trans (.app .refl)⟩
       ·have t1:((a:Int) > 1)=True:=eq_true (by omega)
        have t2:((a:Int) > 2)=True:=eq_true (by omega)
        have t0:((a:Int) > 0)=True:=eq_true (by omega)
        have t7:((a:Int)<7)=True:=eq_true (by omega)
        have t13:((a:Int)<13)=True:=eq_true (by omega)
        have t8:((a:Int)<8)=True:=eq_true (by omega)
        obtain rfl:b1=true:=by rw [← f1];exact decide_eq_true (by omega)
        obtain rfl:b2=true:=by rw [← f2];exact decide_eq_true (by omega)
        obtain rfl:b3=true:=by rw [← f3];exact decide_eq_true (by omega)
        have hsp:=@Nat.succ_ne_zero;repeat' (first|simp (disch:=first|exact dq|fail) only [go_sem,↓reduceIte,hsp,q21,q283,q338,q339,q340,m0,m21,m22,m23,m24,m25,m283,m314,m315,k0,k21,k22,k23,k24,k25,k283,k297,k298,u283,hltk,adL,ldK,← eW1,gW1,c1,c2,c3,c4,c5,c6,run_sgt',t1,t2,t0,t7,t13,t8,g4,hc,bsB4,ad4,ld4,neB,Bool.not_true,Bool.false_eq_true,eq_self,not_true,decide_false]|refine WP_drw ?_|refine cnd_intro (fun hsp=>?_) fun hsp=>?_)
        exact ⟨agq,by omega,fin.trans (.app .refl)⟩
       ·have t1:((a:Int) > 1)=True:=eq_true (by omega)
        have t2:((a:Int) > 2)=True:=eq_true (by omega)
        have t0:((a:Int) > 0)=True:=eq_true (by omega)
        have t7:((a:Int)<7)=False:=eq_false (by omega)
        have t13:((a:Int)<13)=True:=eq_true (by omega)
        have t8:((a:Int)<8)=True:=eq_true (by omega)
        obtain rfl:b1=false:=by rw [← f1];exact decide_eq_false (by omega)
        obtain rfl:b2=true:=by rw [← f2];exact decide_eq_true (by omega)
        obtain rfl:b3=false:=by rw [← f3];exact decide_eq_false (by omega)
        have hsp:=@Nat.succ_ne_zero;repeat' (first|simp (disch:=first|exact dq|fail) only [go_sem,↓reduceIte,hsp,q21,q283,q338,q339,q340,m0,m21,m22,m23,m24,m25,m283,m314,m315,k0,k21,k22,k23,k24,k25,k283,k297,k298,u283,hltk,adL,ldK,← eW1,gW1,c1,c2,c3,c4,c5,c6,run_sgt',t1,t2,t0,t7,t13,t8,g4,hc,bsB4,ad4,ld4,neB,Bool.not_true,Bool.false_eq_true,eq_self,not_true,decide_false]|refine WP_drw ?_|refine cnd_intro (fun hsp=>?_) fun hsp=>?_)
        exact ⟨agq,by omega,fin.trans (.app .refl)⟩
       ·have t1:((a:Int) > 1)=True:=eq_true (by omega)
        have t2:((a:Int) > 2)=True:=eq_true (by omega)
        have t0:((a:Int) > 0)=True:=eq_true (by omega)
        have t7:((a:Int)<7)=False:=eq_false (by omega)
        have t13:((a:Int)<13)=True:=eq_true (by omega)
        have t8:((a:Int)<8)=False:=eq_false (by omega)
        obtain rfl:b1=false:=by rw [← f1];exact decide_eq_false (by omega)
        obtain rfl:b2=true:=by rw [← f2];exact decide_eq_true (by omega)
        obtain rfl:b3=false:=by rw [← f3];exact decide_eq_false (by omega)
        have hsp:=@Nat.succ_ne_zero;repeat' (first|simp (disch:=first|exact dq|fail) only [go_sem,↓reduceIte,hsp,q21,q283,q338,q339,q340,m0,m21,m22,m23,m24,m25,m283,m314,m315,k0,k21,k22,k23,k24,k25,k283,k297,k298,u283,hltk,adL,ldK,← eW1,gW1,c1,c2,c3,c4,c5,c6,run_sgt',t1,t2,t0,t7,t13,t8,g4,hc,bsB4,ad4,ld4,neB,Bool.not_true,Bool.false_eq_true,eq_self,not_true,decide_false]|refine WP_drw ?_|refine cnd_intro (fun hsp=>?_) fun hsp=>?_)
        exact ⟨agq,by omega,fin.trans (.app .refl)⟩
       ·have t1:((a:Int) > 1)=True:=eq_true (by omega)
        have t2:((a:Int) > 2)=True:=eq_true (by omega)
        have t0:((a:Int) > 0)=True:=eq_true (by omega)
        have t7:((a:Int)<7)=False:=eq_false (by omega)
        have t13:((a:Int)<13)=False:=eq_false (by omega)
        have t8:((a:Int)<8)=False:=eq_false (by omega)
        obtain rfl:b1=false:=by rw [← f1];exact decide_eq_false (by omega)
        obtain rfl:b2=false:=by rw [← f2];exact decide_eq_false (by omega)
        obtain rfl:b3=false:=by rw [← f3];exact decide_eq_false (by omega)
        have hsp:=@Nat.succ_ne_zero;repeat' (first|simp (disch:=first|exact dq|fail) only [go_sem,↓reduceIte,hsp,q21,q283,q338,q339,q340,m0,m21,m22,m23,m24,m25,m283,m314,m315,k0,k21,k22,k23,k24,k25,k283,k297,k298,u283,hltk,adL,ldK,← eW1,gW1,c1,c2,c3,c4,c5,c6,run_sgt',t1,t2,t0,t7,t13,t8,g4,hc,bsB4,ad4,ld4,neB,Bool.not_true,Bool.false_eq_true,eq_self,not_true,decide_false]|refine WP_drw ?_|refine cnd_intro (fun hsp=>?_) fun hsp=>?_)
        exact ⟨agq,by omega,fin.trans (.app .refl)⟩
      ·rintro fr5 W hF ⟨q340,xW⟩
       have q21:=hF 21 rfl
       have q283:=hF 283 rfl
       have q338:=hF 338 rfl
       have q339:=hF 339 rfl
       try simp (disch:=first|exact dq|fail) only [go_sem,↓reduceIte,m21,m283] at q21 q283 q338 q339
       have hltk:((((4:Nat):Int))<4)=False:=eq_false (by omega)
       have hsp:=@Nat.succ_ne_zero;repeat' (first|simp (disch:=first|exact dq|fail) only [go_sem,↓reduceIte,hsp,q21,q283,q338,q339,q340,m0,m21,m22,m23,m24,m25,m283,m314,m315,k0,k21,k22,k23,k24,k25,k283,k297,k298,u283,hltk]|refine WP_drw ?_|refine cnd_intro (fun hsp=>?_) fun hsp=>?_)
       exact ⟨agq,by omega,xH.trans (y1.trans (y2.trans (y3.trans (y4.trans (xM.trans (xM1.trans xW))))))⟩
   ·rintro fr2 H hC ⟨u283,xH⟩
    have hlt2:((((14:Nat):Int))<14)=False:=eq_false (by omega)
    have hsp:=@Nat.succ_ne_zero;repeat' (first|simp (disch:=first|exact dq|fail) only [go_sem,↓reduceIte,hsp,u283,hlt2,run_awake]|refine WP_drw ?_|refine cnd_intro (fun hsp=>?_) fun hsp=>?_)
    exact fB rfl (x1K.trans xH)
end Go.AM
