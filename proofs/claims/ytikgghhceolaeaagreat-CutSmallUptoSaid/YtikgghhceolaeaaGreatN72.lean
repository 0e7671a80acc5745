/-
  CutSmall, walked.
-/
import Derived.Test.YtikgghhceolaeaaGreatU27
set_option linter.unusedSimpArgs false
set_option linter.unusedVariables false
namespace Go.AM
open Go.Proofs.Tryz
attribute [-go_sem] put_ne put_same
attribute [local go_sem ↓] put_if
theorem stN72 {base:Nat} {l:List Oper} {s:St} {Q:AExit→St→Prop}:WP prog raw base (.region 32 l.toArray false) s Q=WPS prog raw base (.region 32 l.toArray false) s Q:=WP_stop
attribute [local go_sem ↓ 3000] stN72
theorem stN72b {base:Nat} {l:List Oper} {s:St} {Q:AExit→St→Prop}:WP prog raw base (.region 34 l.toArray false) s Q=WPS prog raw base (.region 34 l.toArray false) s Q:=WP_stop
attribute [local go_sem ↓ 3000] stN72b
theorem stN72c {base:Nat} {l:List Oper} {s:St} {Q:AExit→St→Prop}:WP prog raw base (.region 28 l.toArray true) s Q=WPS prog raw base (.region 28 l.toArray true) s Q:=WP_stop
attribute [local go_sem ↓ 3000] stN72c
set_option maxRecDepth 100000 in
set_option maxHeartbeats 8000000 in
theorem run_CutSmall {base:Nat} {h:Heap}:callL prog raw base (.fn 4 [] []) [] h=some (.bool true,h):=by
 obtain ⟨H0,eH0⟩:∃ H0,H0=h++limL.map fun l=>rowB l 0:=⟨_,rfl⟩
 obtain ⟨H1,eH1⟩:∃ H1,H1=H0++[(⟨.cells (limC h.length) 32 true false,0⟩:ABlk)]:=⟨_,rfl⟩
 have x01:Ext H0 H1:=by rw [eH1];exact .app .refl
 have x1:Ext h H1:=by rw [eH1,eH0];exact .app ⟨_,rfl⟩
 have hl0:H0.length=h.length+15:=by rw [eH0];simp [limL]
 have gC:H1[h.length+15]?=some ⟨.cells (limC h.length) 32 true false,0⟩:=by rw [eH1];exact get_eq hl0.symm
 have hl1:=x1.len
 have lim:∀ i,i<15→Ints H1 (.slice (some ⟨h.length+i,0,0⟩) (limL.getD i []).length (limL.getD i []).length) (limL.getD i []):=fun i hi=>ints_rowB (x01.get (lim_row eH0 hi)) (lim_small hi) rfl
 have eX:h++[rowB [0,1,6,9,10,11,60,61] 0]++[rowB [-1,0,2,4,5,6,10] 0]++[rowB [0,1,3,5,60,61] 0]++[rowB [-1,0,9,11,100,101] 0]++[rowB [-1,0,1,20,21] 0]++[rowB [-1,0,2,4,5] 0]++[rowB [-1,0,2,4,5] 0]++[rowB [-1,0,1,2] 0]++[rowB [-1,0,2,9,10] 0]++[rowB [-1,0,3,5,9,10] 0]++[rowB [-1,0,1,2] 0]++[rowB [-1,0,1,2] 0]++[rowB [-1,0,4,5,6,9,10] 0]++[rowB [-10001,-10000,16,17,18,10000,10001] 0]++[rowB [-1,0,9,10,11] 0]=H0:=by rw [eH0];simp [limL]
 have bsL:∀ {lit:Bool},lit=false→bsA prog lit H0 66 15 [(0,.slice (some ⟨h.length,0,0⟩) 8 8),(1,.slice (some ⟨h.length+1,0,0⟩) 7 7),(2,.slice (some ⟨h.length+1+1,0,0⟩) 6 6),(3,.slice (some ⟨h.length+1+1+1,0,0⟩) 6 6),(4,.slice (some ⟨h.length+1+1+1+1,0,0⟩) 5 5),(5,.slice (some ⟨h.length+1+1+1+1+1,0,0⟩) 5 5),(6,.slice (some ⟨h.length+1+1+1+1+1+1,0,0⟩) 5 5),(7,.slice (some ⟨h.length+1+1+1+1+1+1+1,0,0⟩) 4 4),(8,.slice (some ⟨h.length+1+1+1+1+1+1+1+1,0,0⟩) 5 5),(9,.slice (some ⟨h.length+1+1+1+1+1+1+1+1+1,0,0⟩) 6 6),(10,.slice (some ⟨h.length+1+1+1+1+1+1+1+1+1+1,0,0⟩) 4 4),(11,.slice (some ⟨h.length+1+1+1+1+1+1+1+1+1+1+1,0,0⟩) 4 4),(12,.slice (some ⟨h.length+1+1+1+1+1+1+1+1+1+1+1+1,0,0⟩) 7 7),(13,.slice (some ⟨h.length+1+1+1+1+1+1+1+1+1+1+1+1+1,0,0⟩) 7 7),(14,.slice (some ⟨h.length+1+1+1+1+1+1+1+1+1+1+1+1+1+1,0,0⟩) 5 5)]=some (.slice (some ⟨h.length+15,0,0⟩) 15 15,H1):=fun hl=>by
  rw [bsS15 hl,hl0,eH1];rfl
 refine callL_run func4 rfl rfl ?_
 have hsp:=@Nat.succ_ne_zero;repeat' (first|simp (disch:=first|exact dq|fail) only [go_sem,↓reduceIte,hsp,bsI4,bsI5,bsI6,bsI7,bsI8,eX,bsL]|refine WP_drw ?_|refine cnd_intro (fun hsp=>?_) fun hsp=>?_)
 refine WP_count [(0,11),(45,118)] 0 15 (Nat.zero_le _) (fun _ i fr h'=>fr 45=.int .i64 (i:Int)∧Ext H1 h') ?_ ?_ ?_
 ·exact ⟨by (simp (disch:=first|exact dq|fail) only [go_sem,↓reduceIte,Int.natCast_zero];first|done|rfl),.refl⟩
 ·rintro i fr K hi0 hi hA ⟨p45,xK⟩
  have p43:=hA 43 rfl
  have p44:=hA 44 rfl
  try simp (disch:=first|exact dq|fail) only [go_sem,↓reduceIte] at p43 p44
  have hlt:((i:Int)<15)=True:=eq_true (by omega)
  obtain ⟨l,el⟩:∃ l,l=limL.getD i []:=⟨_,rfl⟩
  obtain ⟨hl0',hl6⟩:=lim_len hi
  rw [← el] at hl0' hl6
  have iL:Ints K (.slice (some ⟨h.length+i,0,0⟩) l.length l.length) l:=by rw [el];exact (lim i hi).ext xK
  obtain ⟨lv,elv⟩:∃ lv,lv=AVal.slice (some ⟨h.length+i,0,0⟩) l.length l.length:=⟨_,rfl⟩
  rw [← elv] at iL
  have olv:=iL.one
  have gCK:=xK.get gC
  have adL:indexAddrA prog 66 (.slice (some ⟨h.length+15,0,0⟩) 15 15) (.int .i64 (i:Int))=some (.ptr (some ⟨h.length+15,0,i⟩)):=by
   rw [adr_sl Fc.el66 Fc.ar66 (by omega) (by omega),Int.toNat_natCast,Nat.mul_one,Nat.zero_add]
  have ldL:loadP prog K 32 (.ptr (some ⟨h.length+15,0,i⟩))=some lv:=by
   rw [load_eq,Fc.ty32,gCK,ldB_cell,lim_at hi,elv,el]
  have hhK:=(x1.trans xK).len
  obtain ⟨K1,eK1⟩:∃ K1,K1=K++[rowB [9223372036854775807,-9223372036854775808] 0]:=⟨_,rfl⟩
  have xK1:Ext K K1:=by rw [eK1];exact .app .refl
  have gK1:K1[K.length]?=some (rowE encI 3 [9223372036854775807,-9223372036854775808] 0):=by rw [eK1,rowE,flat_encI];exact get_eq rfl
  have oMM:Own encI 3 K.length K1 (.slice (some ⟨K.length,0,0⟩) 2 2) [9223372036854775807,-9223372036854775808]:=.inr ⟨K.length,0,rfl,gK1,Nat.le_refl _,by simp⟩
  obtain ⟨nv,H2,eA,oN,hl2,xE,on1⟩:=oMM.appendR (base:=h.length) (t:=32) (iL.ext xK1).rows Fc.el32 encI_sc (by omega) xK1.len hl0' (by simp;omega)
  have x2:Ext K H2:=xE K (Nat.le_refl _) xK1
  obtain ⟨q,eq⟩:∃ q,q=[9223372036854775807,-9223372036854775808]++l:=⟨_,rfl⟩
  rw [← eq] at oN
  have hql:q.length≤10:=by rw [eq];simp;omega
  have hqr:∀ n ∈ q,rng63 n:=fun n hn=>by
   rw [eq] at hn
   rcases List.mem_append.1 hn with hn|hn
   ·simp only [List.mem_cons,List.not_mem_nil,or_false] at hn
    rcases hn with rfl|rfl<;>exact ⟨by decide,by decide⟩
   ·exact iL.1.2 n hn
  have iN:Ints H2 nv q:=own_ints oN ⟨by omega,hqr⟩
  have hsp:=@Nat.succ_ne_zero;repeat' (first|simp (disch:=first|exact dq|fail) only [go_sem,↓reduceIte,hsp,p43,p44,p45,hlt,adL,ldL,bs2I,← eK1,eA]|refine WP_drw ?_|refine cnd_intro (fun hsp=>?_) fun hsp=>?_)
  refine WP_count [(0,0),(5,11),(54,117)] 0 q.length (Nat.zero_le _) (fun _ k fr h'=>fr 54=.int .i64 (k:Int)∧Ext H2 h') ?_ ?_ ?_
  ·exact ⟨by (simp (disch:=first|exact dq|fail) only [go_sem,↓reduceIte,Int.natCast_zero];first|done|rfl),.refl⟩
  ·rintro k fr2 G hk0 hk hB ⟨d54,xG⟩
   have d2:=hB 2 rfl
   have d43:=hB 43 rfl
   have d44:=hB 44 rfl
   have d45:=hB 45 rfl
   have d52:=hB 52 rfl
   have d53:=hB 53 rfl
   try simp (disch:=first|exact dq|fail) only [go_sem,↓reduceIte,p43,p44,p45] at d2 d43 d44 d45 d52 d53
   have hlt2:((k:Int)<(q.length:Int))=True:=eq_true (by omega)
   have iG:=iN.ext xG
   have hn:=hqr _ (getD_mem' (d:=0) hk)
   obtain ⟨n,en⟩:∃ n,n=q.getD k 0:=⟨_,rfl⟩
   rw [← en] at hn
   have hhG:=((x1.trans xK).trans (x2.trans xG)).len
   obtain ⟨v,H3,e3,xG3,F,W,rfl,gF,gW,hF,hFW⟩:=run_TenX (base:=h.length) (h:=G) hhG
   have lW:=lt_of_get gW
   obtain ⟨jj,ejj⟩:∃ w:Bool,w=decide ((i:Int).tmod 2=0):=⟨_,rfl⟩
   obtain ⟨HC,eHC⟩:∃ HC,HC=H3++[ribB 10 (.slice (some ⟨F,0,0⟩) 2 2) (.slice (some ⟨W,0,0⟩) 2 2)]++[cutB ⟨0,1,jj⟩]++[intB1 4]++[intB1 1]++[rowE encC 57 [⟨0,0,true⟩,⟨0,6,false⟩] 0]++[rowB [17,17,16,14,12,10,10,6,0,0,0] 0]:=⟨_,rfl⟩
   have xC:Ext H3 HC:=by rw [eHC];exact .app (.app (.app (.app (.app (.app .refl)))))
   have hlC:HC.length=H3.length+6:=by rw [eHC];simp
   obtain ⟨HP,eHP⟩:∃ HP,HP=HC++[(⟨.cells [.ptr (some ⟨H3.length,0,0⟩),.ptr (some ⟨F,0,0⟩),.ptr (some ⟨W,0,0⟩),.ptr (some ⟨W,0,1⟩),.ptr (some ⟨W,0,2⟩),.ptr (some ⟨W,0,3⟩),.ptr (some ⟨W,0,9⟩),.ptr (some ⟨H3.length+1,0,0⟩),.ptr (some ⟨H3.length+1,0,1⟩),.ptr (some ⟨H3.length+2,0,0⟩),.ptr (some ⟨H3.length+3,0,0⟩),.ptr (some ⟨H3.length+4,0,3⟩),.ptr (some ⟨H3.length+4,0,4⟩),.ptr (some ⟨H3.length+5,0,0⟩),.ptr (some ⟨H3.length+5,0,6⟩)] 68 true false,0⟩:ABlk)]:=⟨_,rfl⟩
   have xP:Ext HC HP:=by rw [eHP];exact .app .refl
   have st0:TnA HP dfl jj F W H3.length:=by
    have x3P:=xC.trans xP
    refine ⟨xP.get ?_,x3P.get gF,x3P.get gW,xP.get ?_,xP.get ?_,xP.get ?_,xP.get ?_,xP.get ?_,by omega⟩
    all_goals (rw [eHC];(repeat' first|exact get_eq (by simp)|refine get_app ?_))
   obtain ⟨H4,eS,st1,hl4,xS⟩:=st0.store (base:=h.length) (n:=n) (by omega) hi
   have xG4:Ext G H4:=xS G (by omega) ((xG3.trans xC).trans xP)
   have gN:HC[H3.length]?=some (ribB 10 (.slice (some ⟨F,0,0⟩) 2 2) (.slice (some ⟨W,0,0⟩) 2 2)):=by rw [eHC];(repeat' first|exact get_eq (by simp)|refine get_app ?_)
   have gVC:HC[H3.length+5]?=some (rowB [17,17,16,14,12,10,10,6,0,0,0] 0):=by rw [eHC];(repeat' first|exact get_eq (by simp)|refine get_app ?_)
   have adP:indexAddrA prog 69 (.slice (some ⟨HC.length,0,0⟩) 15 15) (.int .i64 (i:Int))=some (.ptr (some ⟨HC.length,0,i⟩)):=by
    rw [adr_sl Fc.el69 Fc.ar69 (by omega) (by omega),Int.toNat_natCast,Nat.mul_one,Nat.zero_add]
   have ldP:loadP prog HP 68 (.ptr (some ⟨HC.length,0,i⟩))=some (.ptr (some (tgt F W H3.length i))):=by
    rw [load_eq,Fc.ty68,eHP,get_eq rfl,ldB_cell]
    rcases (by omega:i=0 ∨ i=1 ∨ i=2 ∨ i=3 ∨ i=4 ∨ i=5 ∨ i=6 ∨ i=7 ∨ i=8 ∨ i=9 ∨ i=10 ∨ i=11 ∨ i=12 ∨ i=13 ∨ i=14) with e|e|e|e|e|e|e|e|e|e|e|e|e|e|e<;>subst e<;>rfl
   have iF:Ints HC (.slice (some ⟨F,0,0⟩) 2 2) [3,5]:=ints_rowB (l:=[3,5]) (xC.get gF) (sm_of (by simp) fun x hx=>by simp at hx;unfold rng63;omega) rfl
   have iV:Ints HC (.slice (some ⟨H3.length+5,0,0⟩) 11 11) [17,17,16,14,12,10,10,6,0,0,0]:=ints_rowB gVC (sm_of (by simp) fun x hx=>by simp at hx;unfold rng63;omega) rfl
   have bsC:∀ {lit:Bool} {A:Heap},bsA prog lit A 51 2 [(0,.agg [.int .i64 0,.int .i64 0,.bool true]),(1,.agg [.int .i64 0,.int .i64 6,.bool false])]=some (.slice (some ⟨A.length,0,0⟩) 2 2,A++[rowE encC 57 [⟨0,0,true⟩,⟨0,6,false⟩] 0]):=fun {lit A}=>bs2C (a:=⟨0,0,true⟩) (b:=⟨0,6,false⟩)
   have stk:=st1
   obtain ⟨gR,-,-,gK,gX,gY,-,-,_⟩:=st1
   have LL:=stk.rib (upd_rng dfl_rng hn)
   have PP:=stk.plan
   have VV:=stk.vals (upd_rng dfl_rng hn)
   have CC:CutV H4 (.agg [.int .i64 (upd dfl i n 7),.int .i64 (upd dfl i n 8),.bool jj]):=⟨⟨_,_,_⟩,rfl⟩
   have ask:=fun base=>run_asked (base:=base) (x:=upd dfl i n 9) (y:=upd dfl i n 10) LL CC (upd_rng dfl_rng hn 9) PP VV
   have hh4:h.length≤H4.length:=by have:=xG4.len;omega
   have fin:Ext H2 H4:=xG.trans xG4
   unfold ribB at gN gR
   unfold cutB at gK
   unfold intB1 at gX gY
   unfold ribB cutB intB1 at eHC
   generalize tgt F W H3.length i=tg at ldP eS
   obtain ⟨id,ver,o⟩:=tg
   have eS':stQ h.length id (HP[id]?) ver o [.int .i64 n] (fun b=>HP.set id b)=some H4:=by
    rw [Fc.st3 ⟨rfl,rfl,rfl⟩] at eS
    cases hq:stQ h.length id (HP[id]?) ver o [.int .i64 n] (fun b=>HP.set id b) with
    | none=>rw [hq] at eS;cases eS
    | some X=>rw [hq] at eS;simp only [Option.map_some,Option.some.injEq,Prod.mk.injEq,true_and] at eS;rw [eS]
   clear eS st0
   have hsp:=@Nat.succ_ne_zero;repeat' (first|simp (disch:=first|exact dq|fail) only [go_sem,↓reduceIte,hsp,d2,d43,d44,d45,d52,d53,d54,p43,p44,p45,hlt2,← en,e3,← ejj,bsC,bsI11,← eHC,gN,bsP15,← eHP,adP,ldP,nck,eS',gR,gK,gX,gY,ask]|refine WP_drw ?_|refine cnd_intro (fun hsp=>?_) fun hsp=>?_)
   exact ⟨agq,by omega,fin⟩
  ·rintro fr2 G hB ⟨d54,xG⟩
   have d2:=hB 2 rfl
   have d43:=hB 43 rfl
   have d44:=hB 44 rfl
   have d45:=hB 45 rfl
   have d52:=hB 52 rfl
   have d53:=hB 53 rfl
   try simp (disch:=first|exact dq|fail) only [go_sem,↓reduceIte,p43,p44,p45] at d2 d43 d44 d45 d52 d53
   have hlt2:((q.length:Int)<(q.length:Int))=False:=eq_false (by omega)
   have hsp:=@Nat.succ_ne_zero;repeat' (first|simp (disch:=first|exact dq|fail) only [go_sem,↓reduceIte,hsp,d2,d43,d44,d45,d52,d53,d54,p43,p44,p45,hlt2]|refine WP_drw ?_|refine cnd_intro (fun hsp=>?_) fun hsp=>?_)
   exact ⟨agq,by omega,xK.trans (x2.trans xG)⟩
 ·rintro fr0 K hA0 ⟨p45,xK0⟩
  have p43:=hA0 43 rfl
  have p44:=hA0 44 rfl
  try simp (disch:=first|exact dq|fail) only [go_sem,↓reduceIte] at p43 p44
  have x1K:=x1.trans xK0
  have hlt0:((((15:Nat):Int))<15)=False:=eq_false (by omega)
  have hsp:=@Nat.succ_ne_zero;repeat' (first|simp (disch:=first|exact dq|fail) only [go_sem,↓reduceIte,hsp,p45,p43,p44,hlt0]|refine WP_drw ?_|refine cnd_intro (fun hsp=>?_) fun hsp=>?_)
  refine WP_count [(0,241)] 0 70 (Nat.zero_le _) (fun _ o fr h'=>fr 119=.int .i64 (o:Int)∧Ext K h') ?_ ?_ ?_
  ·exact ⟨by (simp (disch:=first|exact dq|fail) only [go_sem,↓reduceIte,Int.natCast_zero];first|done|rfl),.refl⟩
  ·rintro o fr1 G ho0 ho hB ⟨d119,xG⟩
   have hlt:((o:Int)<70)=True:=eq_true (by omega)
   have xhG:=x1K.trans xG
   have hhG:=xhG.len
   obtain ⟨a9,ea9,la9⟩:∃ a,a=o % 9∧a<9:=⟨_,rfl,Nat.mod_lt _ (by decide)⟩
   obtain ⟨a4,ea4,la4⟩:∃ a,a=o % 4∧a<4:=⟨_,rfl,Nat.mod_lt _ (by decide)⟩
   obtain ⟨a8,ea8,la8⟩:∃ a,a=o % 8∧a<8:=⟨_,rfl,Nat.mod_lt _ (by decide)⟩
   obtain ⟨a3,ea3,la3⟩:∃ a,a=o % 3∧a<3:=⟨_,rfl,Nat.mod_lt _ (by decide)⟩
   obtain ⟨a5,ea5,la5⟩:∃ a,a=o % 5∧a<5:=⟨_,rfl,Nat.mod_lt _ (by decide)⟩
   obtain ⟨o2,eo2,lo2⟩:∃ a,a=o / 2∧a≤70:=⟨_,rfl,by omega⟩
   obtain ⟨f3,ef3,lf3⟩:∃ a,a=o2 % 3∧a<3:=⟨_,rfl,Nat.mod_lt _ (by decide)⟩
   obtain ⟨bb,ebb⟩:∃ w:Bool,w=decide ((o:Int).tmod 2=0):=⟨_,rfl⟩
   have m9:(o:Int).tmod 9=(a9:Int):=by rw [ea9];rfl
   have m4:(o:Int).tmod 4=(a4:Int):=by rw [ea4];rfl
   have m8:(o:Int).tmod 8=(a8:Int):=by rw [ea8];rfl
   have m3:(o:Int).tmod 3=(a3:Int):=by rw [ea3];rfl
   have m5:(o:Int).tmod 5=(a5:Int):=by rw [ea5];rfl
   have d2:(o:Int).tdiv 2=(o2:Int):=by rw [eo2];rfl
   have m23:(o2:Int).tmod 3=(f3:Int):=by rw [ef3];rfl
   clear ea9 ea4 ea8 ea3 ea5 eo2 ef3
   obtain ⟨G0,eG0⟩:∃ G0,G0=G++[ribB (1+(a9:Int)) (.slice none 0 0) (.slice none 0 0)]:=⟨_,rfl⟩
   have gN0:G0[G.length]?=some (ribB (1+(a9:Int)) (.slice none 0 0) (.slice none 0 0)):=by rw [eG0];exact get_eq rfl
   have xG0:Ext G G0:=by rw [eG0];exact .app .refl
   have lG0:G0.length=G.length+1:=by rw [eG0];simp
   have gN0':=gN0
   unfold ribB at eG0 gN0'
   have hsp:=@Nat.succ_ne_zero;repeat' (first|simp (disch:=first|exact dq|fail) only [go_sem,↓reduceIte,hsp,d119,hlt,m9,← eG0,gN0']|refine WP_drw ?_|refine cnd_intro (fun hsp=>?_) fun hsp=>?_)
   refine WP_count [(14,14),(128,144)] 0 (1+a9) (Nat.zero_le _) (fun _ u fr h'=>fr 128=.int .i64 (u:Int)∧Ext G h'∧∃ fv F,h'[G.length]?=some (ribB (1+(a9:Int)) fv (.slice none 0 0))∧Own encI 3 (G.length+1) h' fv F∧F.length≤u∧∀ y ∈ F,0≤y∧y≤60) ?_ ?_ ?_
   ·exact ⟨by (simp (disch:=first|exact dq|fail) only [go_sem,↓reduceIte,Int.natCast_zero];first|done|rfl),xG0,.slice none 0 0,[],gN0,Own.nil,Nat.le_refl _,fun y hy=>by cases hy⟩
   ·rintro u fr2 H hu0 hu hC ⟨e128,xH,fv,F,gN,oF,hFl,hFb⟩
    have e0:=hC 0 rfl
    have e12:=hC 12 rfl
    have e13:=hC 13 rfl
    have e119:=hC 119 rfl
    have e127:=hC 127 rfl
    try simp (disch:=first|exact dq|fail) only [go_sem,↓reduceIte,d119] at e0 e12 e13 e119 e127
    have hltu:((u:Int)<1+(a9:Int))=True:=eq_true (by omega)
    have hHl:=(xhG.trans xH).len
    have lN:=lt_of_get gN
    have ofv:=oF.one
    obtain ⟨uu,euu,luu⟩:∃ a,a=u * u∧a≤9 * 9:=⟨_,rfl,Nat.mul_le_mul (by omega) (by omega)⟩
    obtain ⟨r4,er4,lr4⟩:∃ a,a=(o+uu) % 4∧a<4:=⟨_,rfl,Nat.mod_lt _ (by decide)⟩
    have mm:(u:Int) * (u:Int)=(uu:Int):=by rw [euu,Int.natCast_mul]
    have mr:((o:Int)+(uu:Int)).tmod 4=(r4:Int):=by rw [er4];exact tmodI (by omega) rfl
    clear er4 euu
    by_cases c:r4=0
    ·have t4:((r4:Int)=0)=True:=eq_true (by omega)
     obtain ⟨w',K3,ea,oW,lW,eW2,oneW,kW⟩:=oF.append1X (P:=prog) (y:=(u:Int)) (a:=.int .i64 (u:Int)) (base:=h.length) (t:=32) rfl rfl Fc.el32 encI_sc (by omega) (by omega) (by omega)
     have kW:KeepO encI 3 H K3:=kW
     have gK:=kW.box gN
     unfold ribB at gN
     have hsp:=@Nat.succ_ne_zero;repeat' (first|simp (disch:=first|exact dq|fail) only [go_sem,↓reduceIte,hsp,e0,e12,e13,e119,e127,e128,d119,hltu,mm,mr,t4,gN,ea,gK]|refine WP_drw ?_|refine cnd_intro (fun hsp=>?_) fun hsp=>?_)
     refine ⟨agq,by omega,(eW2 _ (by omega) xH).set (Nat.le_refl _),w',F++[(u:Int)],rfl,oW.setBox gK,by simp;omega,fun y hy=>?_⟩
     rcases List.mem_append.1 hy with hy|hy
     ·exact hFb y hy
     ·rw [List.mem_singleton] at hy;omega
    ·have t4:((r4:Int)=0)=False:=eq_false (by omega)
     have gN':=gN
     unfold ribB at gN'
     have hsp:=@Nat.succ_ne_zero;repeat' (first|simp (disch:=first|exact dq|fail) only [go_sem,↓reduceIte,hsp,e0,e12,e13,e119,e127,e128,d119,hltu,mm,mr,t4,gN']|refine WP_drw ?_|refine cnd_intro (fun hsp=>?_) fun hsp=>?_)
     exact ⟨agq,by omega,xH,fv,F,rfl,oF,by omega,hFb⟩
   ·rintro fr2 H hC ⟨e128,xH,fv,F,gN,oF,hFl,hFb⟩
    have e0:=hC 0 rfl
    have e12:=hC 12 rfl
    have e13:=hC 13 rfl
    have e119:=hC 119 rfl
    have e127:=hC 127 rfl
    try simp (disch:=first|exact dq|fail) only [go_sem,↓reduceIte,d119] at e0 e12 e13 e119 e127
    rw [show ((1+a9:Nat):Int)=1+(a9:Int) by omega] at e128
    have hltu:(1+(a9:Int)<1+(a9:Int))=False:=eq_false (by omega)
    have hsp:=@Nat.succ_ne_zero;repeat' (first|simp (disch:=first|exact dq|fail) only [go_sem,↓reduceIte,hsp,e0,e12,e13,e119,e127,e128,d119,hltu,m4]|refine WP_drw ?_|refine cnd_intro (fun hsp=>?_) fun hsp=>?_)
    refine WP_count [(15,15),(147,177)] 0 a4 (Nat.zero_le _) (fun _ i fr h'=>fr 147=.int .i64 (i:Int)∧Ext G h'∧∃ wv W,h'[G.length]?=some (ribB (1+(a9:Int)) fv wv)∧Own encI 3 (G.length+1) h' fv F∧Own encW 50 (G.length+1) h' wv W∧W.length≤i) ?_ ?_ ?_
    ·exact ⟨by (simp (disch:=first|exact dq|fail) only [go_sem,↓reduceIte,Int.natCast_zero];first|done|rfl),xH,.slice none 0 0,[],gN,oF,Own.nil,Nat.le_refl _⟩
    ·rintro i fr3 J hi0 hi hD ⟨k147,xJ,wv,W,gNJ,oFJ,oW,hWl⟩
     have k0:=hD 0 rfl
     have k12:=hD 12 rfl
     have k13:=hD 13 rfl
     have k119:=hD 119 rfl
     have k146:=hD 146 rfl
     try simp (disch:=first|exact dq|fail) only [go_sem,↓reduceIte,e0,e12,e13,e119] at k0 k12 k13 k119 k146
     have hlti:((i:Int)<(a4:Int))=True:=eq_true (by omega)
     have hJl:=(xhG.trans xJ).len
     have lN:=lt_of_get gNJ
     have ofv:=oFJ.one
     have owv:=oW.one
     obtain ⟨p4,ep4,lp4⟩:∃ a,a=(o+i) % 4∧a<4:=⟨_,rfl,Nat.mod_lt _ (by decide)⟩
     obtain ⟨dv,edv,ldv⟩:∃ a,a=o / (i+1)∧a≤70:=⟨_,rfl,Nat.le_trans (Nat.div_le_self _ _) (by omega)⟩
     obtain ⟨q13,eq13,lq13⟩:∃ a,a=dv % 13∧a<13:=⟨_,rfl,Nat.mod_lt _ (by decide)⟩
     obtain ⟨q3,eq3,lq3⟩:∃ a,a=(o+i) % 3∧a<3:=⟨_,rfl,Nat.mod_lt _ (by decide)⟩
     have n4:((o:Int)+(i:Int)).tmod 4=(p4:Int):=by rw [ep4];exact tmodI (by omega) rfl
     have nd:(o:Int).tdiv ((i:Int)+1)=(dv:Int):=by rw [edv];exact tdivI rfl (by omega)
     have n13:(dv:Int).tmod 13=(q13:Int):=by rw [eq13];rfl
     have n3:((o:Int)+(i:Int)).tmod 3=(q3:Int):=by rw [eq3];exact tmodI (by omega) rfl
     clear ep4 edv eq13 eq3
     obtain ⟨w',M,ea,oW',lW',eW,oneW,kW⟩:=snocWW (base:=h.length) (r:=⟨1+(p4:Int),(q13:Int),(p4:Int),(f3:Int),(q3:Int)⟩) oW (by omega) (by omega) (by omega)
     have gM:=kW.box gNJ
     have oFM:=kW.own oFJ (by decide)
     have xM:=eW G (by omega) xJ
     have bsw:∀ {lit:Bool},bsA prog lit J 33 1 [(0,.agg [.int .i64 (1+(p4:Int)),.int .i64 (q13:Int),.int .i64 (p4:Int),.int .i64 (f3:Int),.int .i64 (q3:Int)])]=some (.slice (some ⟨J.length,0,0⟩) 1 1,J++[rowE encW 50 [⟨1+(p4:Int),(q13:Int),(p4:Int),(f3:Int),(q3:Int)⟩] 0]):=fun {lit}=>bsWW1 (w:=⟨1+(p4:Int),(q13:Int),(p4:Int),(f3:Int),(q3:Int)⟩)
     have g1:∀ {a:ABlk},(J++[a])[G.length]?=_:=fun {a}=>get_app gNJ
     unfold ribB at gNJ g1
     have hsp:=@Nat.succ_ne_zero;repeat' (first|simp (disch:=first|exact dq|fail) only [go_sem,↓reduceIte,hsp,k0,k12,k13,k119,k146,k147,e0,e12,e13,e119,e127,e128,d119,hlti]|refine WP_drw ?_|refine cnd_intro (fun hsp=>?_) fun hsp=>?_)
     refine WPS_go ?_
     refine WP_draw (by kernel_rfl) ?_ (by kernel_rfl)
     have hsp:=@Nat.succ_ne_zero;repeat' (first|simp (disch:=first|exact dq|fail) only [go_sem,↓reduceIte,hsp,k0,k12,k13,k119,k146,k147,e0,e12,e13,e119,e127,e128,d119,hlti,n4,nd,n13,d2,m23,n3,bsw,ea,gNJ,gM,g1]|refine WP_drw ?_|refine cnd_intro (fun hsp=>?_) fun hsp=>?_)
     refine ⟨agq,by omega,xM.set (by omega),w',_,rfl,oFM.setBox gM,oW'.setBox gM,by simp;omega⟩
    ·rintro fr3 J hD ⟨k147,xJ,wv,W,gNJ,oFJ,oW,hWl⟩
     have k0:=hD 0 rfl
     have k12:=hD 12 rfl
     have k13:=hD 13 rfl
     have k119:=hD 119 rfl
     have k146:=hD 146 rfl
     try simp (disch:=first|exact dq|fail) only [go_sem,↓reduceIte,e0,e12,e13,e119] at k0 k12 k13 k119 k146
     have hlti:((a4:Int)<(a4:Int))=False:=eq_false (by omega)
     have hJl:=(xhG.trans xJ).len
     have lN:=lt_of_get gNJ
     have ofv:=oFJ.one
     have owv:=oW.one
     have sF:Small F:=⟨by omega,fun y hy=>by have:=hFb y hy;omega⟩
     have RA:RibAt J (.agg [.int .i64 (1+(a9:Int)),fv,wv]) ⟨1+(a9:Int),F,W⟩:=⟨fv,wv,rfl,own_ints oFJ sF,oW.rows (by omega)⟩
     obtain ⟨w1,H1,e1,x1,pv,rfl,oP⟩:=run_Best (base:=h.length) (h:=J) (by omega) RA (by show F.length≤_;omega)
     have lH1:=x1.len
     obtain ⟨w2,H2,e2,x2,vv,rfl,oV⟩:=run_Made (base:=h.length) (h:=H1) (by omega) (RA.ext x1) (by show F.length≤_;omega)
     have lH2:=x2.len
     have opv:=oP.one
     have ovv:=oV.one
     obtain ⟨P,eP⟩:∃ P,P=bstE false ⟨1+(a9:Int),F,W⟩:=⟨_,rfl⟩
     obtain ⟨V,eV⟩:∃ V,V=madE ⟨1+(a9:Int),F,W⟩:=⟨_,rfl⟩
     have hPl:P.length≤60:=by rw [eP];exact bst_len
     have hPf:∀ c ∈ P,0≤c.f∧c.f≤60:=fun c hc=>bst_f (by rw [← eP];exact hc)
     have hVm:=mad_b (R:=⟨1+(a9:Int),F,W⟩)
     rw [← eV] at hVm oV
     rw [← eP] at oP
     obtain ⟨hVl,hVb⟩:=hVm
     have sV:Small V:=⟨by omega,fun y hy=>by have:=hVb y hy;omega⟩
     have gH1:=x1.get gNJ
     have oP2:=oP.ext x2
     have gJ':=gNJ
     unfold ribB at gJ' gH1
     obtain ⟨al,eal⟩:∃ al,al=allE ⟨1+(a9:Int),F,W⟩:=⟨_,rfl⟩
     rw [← eal] at e1
     obtain ⟨ch,ech⟩:∃ ch,ch=chkR ⟨1+(a9:Int),F,W⟩:=⟨_,rfl⟩
     rw [← ech] at e1 e2
     have x12:=x1.trans x2
     have gH2:=x12.get gJ'
     have hsp:=@Nat.succ_ne_zero;repeat' (first|simp (disch:=first|exact dq|fail) only [go_sem,↓reduceIte,hsp,k0,k12,k13,k119,k146,k147,e0,e12,e13,e119,e127,e128,d119,hlti,gJ',gH1,e1,e2]|refine WP_drw ?_|refine cnd_intro (fun hsp=>?_) fun hsp=>?_)
     refine WPS_restF fun Z eZ=>?_
     rw [← WP_seq]
     have kZ12:=congrFun eZ 12
     have kZ13:=congrFun eZ 13
     have kZ16:=congrFun eZ 16
     have kZ19:=congrFun eZ 19
     have kZ119:=congrFun eZ 119
     try simp (disch:=first|exact dq|fail) only [go_sem,↓reduceIte,k12,k12,k13,k13,k119,k119] at kZ12 kZ13 kZ16 kZ19 kZ119
     have aZ:Agree [(0,241)] Z fr1:=by rw [eZ];exact agq
     clear eZ
     refine WP_meet (fun fr h'=>Agree [(189,203)] fr Z∧Ext J h'∧(∃ P3,Own encC 57 J.length h' pv P3∧P3.length≤60)∧OwnE encI 3 H1.length h' vv V) ?_ ?_
     ·rw [WP_seq,WP_region]
      by_cases c3:a3=0
      ·have t3:((a3:Int)=0)=True:=eq_true (by omega)
       cases P with
       | nil =>
        have hP0:lenOpA prog H2 51 pv=some (.int .i64 0):=(oP2.rows (by simp)).len Fc.el51
        have hP1:((0:Int) > 0)=False:=eq_false (by omega)
        have hsp:=@Nat.succ_ne_zero;repeat' (first|simp (disch:=first|exact dq|fail) only [go_sem,↓reduceIte,hsp,kZ12,kZ13,kZ16,kZ19,kZ119,m3,t3,hP0,hP1]|refine WP_drw ?_|refine cnd_intro (fun hsp=>?_) fun hsp=>?_)
        exact ⟨agq,x12,⟨[],oP2,by simp⟩,oV⟩
       | cons c P =>
        obtain ⟨n1,en1⟩:∃ n1,n1=(c :: P).length:=⟨_,rfl⟩
        have hP0:lenOpA prog H2 51 pv=some (.int .i64 (n1:Int)):=by rw [en1];exact (oP2.rows (by simp only [List.length_cons] at hPl ⊢;omega)).len Fc.el51
        have hP1:((n1:Int) > 0)=True:=eq_true (by rw [List.length_cons] at en1;omega)
        obtain ⟨id,ver,epv,gP,hid⟩:∃ id ver,pv=.slice (some ⟨id,ver,0⟩) (c :: P).length (c :: P).length∧H2[id]?=some (rowE encC 57 (c :: P) ver)∧J.length≤id:=by
         rcases oP2 with ⟨_,q⟩|⟨id,ver,q1,q2,q3,_⟩
         ·cases q
         ·exact ⟨id,ver,q1,q2,q3⟩
        have lid:=lt_of_get gP
        have hcf:=hPf c (List.mem_cons_self ..)
        have adP:indexAddrA prog 51 pv (.int .i64 0)=some (.ptr (some ⟨id,ver,0⟩)):=by
         rw [epv,adr_sl Fc.el51 Fc.ar51 (by omega) (by simp only [List.length_cons];omega)];rfl
        have ldP:∀ z,ldB (some (false,z)) (H2[id]?) ver 1=some (.int .i64 c.f):=fun z=>ld_from gP
        obtain ⟨X3,eX3⟩:∃ X3,X3=H2.set id (rowE encC 57 (⟨c.w,c.f+1,c.j⟩ :: P) ver):=⟨_,rfl⟩
        have stP:stQ h.length id (H2[id]?) ver 1 [.int .i64 (c.f+1)] (fun b=>H2.set id b)=some X3:=by rw [eX3];exact st_from (by omega) gP
        have x3:Ext J X3:=by rw [eX3];exact x12.set (by omega)
        have oP3:∃ P3:List Ct,Own encC 57 J.length X3 pv P3∧P3.length≤60:=⟨⟨c.w,c.f+1,c.j⟩ :: P,.inr ⟨id,ver,by rw [epv];rfl,by rw [eX3,List.getElem?_set_self lid],hid,by simp⟩,by simpa using hPl⟩
        have o3V:OwnE encI 3 H1.length X3 vv V:=by rw [eX3];exact oV.setRow gP (by decide)
        clear eX3
        have hsp:=@Nat.succ_ne_zero;repeat' (first|simp (disch:=first|exact dq|fail) only [go_sem,↓reduceIte,hsp,kZ12,kZ13,kZ16,kZ19,kZ119,m3,t3,hP0,hP1,adP,ldP,stP]|refine WP_drw ?_|refine cnd_intro (fun hsp=>?_) fun hsp=>?_)
        exact ⟨agq,x3,oP3,o3V⟩
      ·have t3:((a3:Int)=0)=False:=eq_false (by omega)
       have hsp:=@Nat.succ_ne_zero;repeat' (first|simp (disch:=first|exact dq|fail) only [go_sem,↓reduceIte,hsp,kZ12,kZ13,kZ16,kZ19,kZ119,m3,t3]|refine WP_drw ?_|refine cnd_intro (fun hsp=>?_) fun hsp=>?_)
       exact ⟨agq,x12,⟨P,oP2,hPl⟩,oV⟩
     ·rintro fr4 X ⟨hA4,ex,⟨P3,oP3,hP3⟩,o3V⟩
      have y12:=hA4 12 rfl
      have y13:=hA4 13 rfl
      have y16:=hA4 16 rfl
      have y19:=hA4 19 rfl
      have y119:=hA4 119 rfl
      try simp (disch:=first|exact dq|fail) only [go_sem,↓reduceIte,kZ12,kZ13,kZ16,kZ19,kZ119] at y12 y13 y16 y19 y119
      have hsp:=@Nat.succ_ne_zero;repeat' (first|simp (disch:=first|exact dq|fail) only [go_sem,↓reduceIte,hsp,y12,y13,y16,y19,y119]|refine WP_drw ?_|refine cnd_intro (fun hsp=>?_) fun hsp=>?_)
      refine WPS_restF fun Y eY=>?_
      rw [← WP_seq]
      have kY12:=congrFun eY 12
      have kY13:=congrFun eY 13
      have kY16:=congrFun eY 16
      have kY19:=congrFun eY 19
      have kY119:=congrFun eY 119
      try simp (disch:=first|exact dq|fail) only [go_sem,↓reduceIte,y12,y13,y16,y19,y119] at kY12 kY13 kY16 kY19 kY119
      have aY:Agree [(189,203)] Y Z:=by rw [eY];exact agq
      clear eY
      have hX:=ex.len
      have iV3:Ints X vv V:=ownE_ints o3V sV
      refine WP_meet (fun fr h'=>Agree [(204,223)] fr Y∧Ext J h'∧CtsN 1048576 h' pv∧IntsN 1048576 h' vv) ?_ ?_
      ·rw [WP_seq,WP_region]
       have nV:lenOpA prog X 32 vv=some (.int .i64 (V.length:Int)):=lenI iV3
       have CP:CtsN 1048576 X pv:=⟨_,oP3.rows (by omega),by omega⟩
       by_cases c5:2<a5
       ·have t5:((a5:Int) > 2)=True:=eq_true (by omega)
        by_cases cV:V.length=0
        ·have tV:((V.length:Int) > 0)=False:=eq_false (by omega)
         have hsp:=@Nat.succ_ne_zero;repeat' (first|simp (disch:=first|exact dq|fail) only [go_sem,↓reduceIte,hsp,kY12,kY13,kY16,kY19,kY119,m5,t5,nV,tV]|refine WP_drw ?_|refine cnd_intro (fun hsp=>?_) fun hsp=>?_)
         exact ⟨agq,ex,CP,⟨V,iV3,by omega⟩⟩
        ·have tV:((V.length:Int) > 0)=True:=eq_true (by omega)
         obtain ⟨id2,ver2,evv,g2,hid2⟩:∃ id ver,vv=.slice (some ⟨id,ver,0⟩) V.length V.length∧X[id]?=some (rowE encI 3 V ver)∧H1.length≤id:=by
          rcases o3V with (⟨_,q⟩|⟨id,ver,q1,q2,q3,_⟩)|⟨_,q⟩
          ·rw [q] at cV;exact absurd rfl cV
          ·exact ⟨id,ver,q1,q2,q3⟩
          ·rw [q] at cV;exact absurd rfl cV
         have lid2:=lt_of_get g2
         obtain ⟨kk,ekk,lkk⟩:∃ a,a=o % V.length∧a<V.length:=⟨_,rfl,Nat.mod_lt _ (by omega)⟩
         have mk:(o:Int).tmod (V.length:Int)=(kk:Int):=by rw [ekk];rfl
         clear ekk
         have tz:((V.length:Int)=0)=False:=eq_false (by omega)
         have adV:indexAddrA prog 32 vv (.int .i64 (kk:Int))=some (.ptr (some ⟨id2,ver2,kk⟩)):=by
          rw [evv,adr_sl Fc.el32 Fc.ar32 (by omega) (by omega),Int.toNat_natCast,Nat.mul_one,Nat.zero_add]
         obtain ⟨y,ey⟩:∃ y,y=V.getD kk 0:=⟨_,rfl⟩
         have hy:0≤y∧y≤6000:=by rw [ey];exact hVb _ (getD_mem' lkk)
         have ldV:∀ z,ldB (some (false,z)) (X[id2]?) ver2 kk=some (.int .i64 y):=fun z=>by rw [ey];exact ld_val lkk g2
         obtain ⟨X4,eX4⟩:∃ X4,X4=X.set id2 (rowE encI 3 (V.set kk (y+((a5:Int)-3))) ver2):=⟨_,rfl⟩
         have stV:stQ h.length id2 (X[id2]?) ver2 kk [.int .i64 (y+((a5:Int)-3))] (fun b=>X.set id2 b)=some X4:=by rw [eX4];exact st_val (by omega) lkk g2
         have x4:Ext J X4:=by rw [eX4];exact ex.set (by omega)
         have CP4:CtsN 1048576 X4 pv:=⟨_,(show Own encC 57 J.length X4 pv _ by rw [eX4];exact oP3.setRow g2 (by decide)).rows (by omega),by omega⟩
         have o4V:Own encI 3 H1.length X4 vv (V.set kk (y+((a5:Int)-3))):=.inr ⟨id2,ver2,by rw [evv,List.length_set],by rw [eX4,List.getElem?_set_self lid2],hid2,by rw [List.length_set];omega⟩
         have IV4:IntsN 1048576 X4 vv:=⟨_,own_ints o4V ⟨by rw [List.length_set];omega,fun z hz=>by
          rcases List.mem_or_eq_of_mem_set hz with hz|hz
          ·have:=hVb z hz;omega
          ·omega⟩,by rw [List.length_set];omega⟩
         clear eX4
         have hsp:=@Nat.succ_ne_zero;repeat' (first|simp (disch:=first|exact dq|fail) only [go_sem,↓reduceIte,hsp,kY12,kY13,kY16,kY19,kY119,m5,t5,nV,tV,mk,tz,adV,ldV,stV]|refine WP_drw ?_|refine cnd_intro (fun hsp=>?_) fun hsp=>?_)
         exact ⟨agq,x4,CP4,IV4⟩
       ·have t5:((a5:Int) > 2)=False:=eq_false (by omega)
        have hsp:=@Nat.succ_ne_zero;repeat' (first|simp (disch:=first|exact dq|fail) only [go_sem,↓reduceIte,hsp,kY12,kY13,kY16,kY19,kY119,m5,t5]|refine WP_drw ?_|refine cnd_intro (fun hsp=>?_) fun hsp=>?_)
        exact ⟨agq,ex,CP,⟨V,iV3,by omega⟩⟩
      ·rintro fr5 X5 ⟨hA5,x5,CP,IV⟩
       have w12:=hA5 12 rfl
       have w13:=hA5 13 rfl
       have w16:=hA5 16 rfl
       have w19:=hA5 19 rfl
       have w119:=hA5 119 rfl
       try simp (disch:=first|exact dq|fail) only [go_sem,↓reduceIte,kY12,kY13,kY16,kY19,kY119] at w12 w13 w16 w19 w119
       have hX5:=x5.len
       have RN:RibN 1048576 X5 (.agg [.int .i64 (1+(a9:Int)),fv,wv]):=⟨_,RA.ext x5,by show F.length≤_;omega,by show W.length≤_;omega⟩
       have ask:∀ base,callL prog raw base (.fn 20 [] []) [.agg [.int .i64 (1+(a9:Int)),fv,wv],.agg [.int .i64 (a4:Int),.int .i64 (a8:Int),.bool bb],.int .i64 (a9:Int),.int .i64 (a3:Int),pv,vv] X5=some (.bool true,X5):=fun base=>run_asked RN ⟨⟨_,_,_⟩,rfl⟩ ⟨by omega,by omega⟩ CP IV
       have gX:=x5.get gJ'
       have fin:Ext K X5:=xG.trans (xJ.trans x5)
       have hsp:=@Nat.succ_ne_zero;repeat' (first|simp (disch:=first|exact dq|fail) only [go_sem,↓reduceIte,hsp,w12,w13,w16,w19,w119,gX,m4,m8,m9,m3,← ebb,ask,Bool.not_true,Bool.false_eq_true]|refine WP_drw ?_|refine cnd_intro (fun hsp=>?_) fun hsp=>?_)
       exact ⟨agq,by omega,fin⟩
  ·rintro fr1 G hB ⟨d119,xG⟩
   have hlt:(((70:Nat):Int)<70)=False:=eq_false (by omega)
   have xhG:=x1K.trans xG
   have hsp:=@Nat.succ_ne_zero;repeat' (first|simp (disch:=first|exact dq|fail) only [go_sem,↓reduceIte,hsp,d119,hlt]|refine WP_drw ?_|refine cnd_intro (fun hsp=>?_) fun hsp=>?_)
   refine WP_count [(0,327)] 0 14 (Nat.zero_le _) (fun _ n fr h'=>fr 242=.int .i64 (n:Int)∧Ext K h') ?_ ?_ ?_
   ·exact ⟨by (simp (disch:=first|exact dq|fail) only [go_sem,↓reduceIte,Int.natCast_zero];first|done|rfl),xG⟩
   ·rintro n fr2 H hn0 hn hC ⟨u242,xH⟩
    have hlt2:((n:Int)<14)=True:=eq_true (by omega)
    have xhH:=x1K.trans xH
    have hhH:=xhH.len
    obtain ⟨T1,eT1⟩:∃ T1,T1=H++[rowB [4] 0]:=⟨_,rfl⟩
    have xT1:Ext H T1:=by rw [eT1];exact .app .refl
    have lT1:T1.length=H.length+1:=by rw [eT1];simp
    have gT1:T1[H.length]?=some (rowB [4] 0):=by rw [eT1];exact get_eq rfl
    obtain ⟨T0,eT0⟩:∃ T0,T0=T1++[ribB 60 (.slice none 0 0) (.slice none 0 0)]++[ribB 9 (.slice (some ⟨H.length,0,0⟩) 1 1) (.slice none 0 0)]:=⟨_,rfl⟩
    have xT:Ext T1 T0:=by rw [eT0];exact .app (.app .refl)
    have gA0:T0[T1.length]?=some (ribB 60 (.slice none 0 0) (.slice none 0 0)):=by rw [eT0];exact get_app (get_eq rfl)
    have gB0:T0[T1.length+1]?=some (ribB 9 (.slice (some ⟨H.length,0,0⟩) 1 1) (.slice none 0 0)):=by rw [eT0];exact get_eq (by simp)
    have lT0:T0.length=T1.length+2:=by rw [eT0];simp
    unfold ribB at eT0
    have hsp:=@Nat.succ_ne_zero;repeat' (first|simp (disch:=first|exact dq|fail) only [go_sem,↓reduceIte,hsp,u242,hlt2,bsrI,← eT1,← eT0]|refine WP_drw ?_|refine cnd_intro (fun hsp=>?_) fun hsp=>?_)
    refine WP_count [(24,24),(249,271)] 0 n (Nat.zero_le _) (fun _ i fr h'=>fr 249=.int .i64 (i:Int)∧Ext T1 h'∧∃ fv wv,h'[T1.length]?=some (ribB 60 fv (.slice none 0 0))∧h'[T1.length+1]?=some (ribB 9 (.slice (some ⟨H.length,0,0⟩) 1 1) wv)∧Own encI 3 (T1.length+2) h' fv (fltL i)∧Own encW 50 (T1.length+2) h' wv (wtsL i)) ?_ ?_ ?_
    ·exact ⟨by (simp (disch:=first|exact dq|fail) only [go_sem,↓reduceIte,Int.natCast_zero];first|done|rfl),xT,.slice none 0 0,.slice none 0 0,gA0,gB0,Own.nil,Own.nil⟩
    ·rintro i fr3 J hi0 hi hD ⟨k249,xJ,fv,wv,gA,gB,oF,oW⟩
     have k0:=hD 0 rfl
     have k21:=hD 21 rfl
     have k22:=hD 22 rfl
     have k23:=hD 23 rfl
     have k242:=hD 242 rfl
     have k248:=hD 248 rfl
     try simp (disch:=first|exact dq|fail) only [go_sem,↓reduceIte,u242] at k0 k21 k22 k23 k242 k248
     have hlti:((i:Int)<(n:Int))=True:=eq_true (by omega)
     have hJl:=((xhH.trans xT1).trans xJ).len
     have lA:=lt_of_get gA
     have lB:=lt_of_get gB
     have ofv:=oF.one
     have owv:=oW.one
     have lF:=fltL_len (n:=i)
     have lW:=wtsL_len (n:=i)
     obtain ⟨p4,ep4,lp4⟩:∃ a,a=i % 4∧a<4:=⟨_,rfl,Nat.mod_lt _ (by decide)⟩
     obtain ⟨p2,ep2,lp2⟩:∃ a,a=i % 2∧a<2:=⟨_,rfl,Nat.mod_lt _ (by decide)⟩
     have n4:(i:Int).tmod 4=(p4:Int):=by rw [ep4];rfl
     have n2:(i:Int).tmod 2=(p2:Int):=by rw [ep2];rfl
     obtain ⟨v',Z1,ea1,oF1,l1,e1x,one1,k1⟩:=oF.append1X (P:=prog) (y:=4 * (i:Int)) (a:=.int .i64 (4 * (i:Int))) (base:=h.length) (t:=32) rfl rfl Fc.el32 encI_sc (by omega) (by omega) (by omega)
     have k1:KeepO encI 3 J Z1:=k1
     have gA1:=k1.box gA
     have gB1:=k1.box gB
     have oW1:=k1.own oW (by decide)
     have x1Z:=e1x T1 (by omega) xJ
     rw [← fltL_succ] at oF1
     obtain ⟨Z2,eZ2⟩:∃ Z2,Z2=Z1.set T1.length (ribB 60 v' (.slice none 0 0)):=⟨_,rfl⟩
     have lZ2:Z2.length=Z1.length:=by rw [eZ2,List.length_set]
     have gA2:Z2[T1.length]?=some (ribB 60 v' (.slice none 0 0)):=by rw [eZ2,List.getElem?_set_self (by omega)]
     have gB2:Z2[T1.length+1]?=some (ribB 9 (.slice (some ⟨H.length,0,0⟩) 1 1) wv):=by rw [eZ2,List.getElem?_set_ne (by omega)];exact gB1
     have oF2:Own encI 3 (T1.length+2) Z2 v' (fltL (i+1)):=by rw [eZ2];exact oF1.setBox gA1
     have oW2:Own encW 50 (T1.length+2) Z2 wv (wtsL i):=by rw [eZ2];exact oW1.setBox gA1
     have x2Z:Ext T1 Z2:=by rw [eZ2];exact x1Z.set (Nat.le_refl _)
     obtain ⟨w',Z3,ea2,oW3,l3,e3x,one3,k3⟩:=snocWW (base:=h.length) (r:=⟨1+(p4:Int),(i:Int),0,(p2:Int),0⟩) oW2 (by omega) (by omega) (by omega)
     have gA3:=k3.box gA2
     have gB3:=k3.box gB2
     have oF3:=k3.own oF2 (by decide)
     have x3Z:=e3x T1 (by omega) x2Z
     have eWs:wtsL i++[⟨1+(p4:Int),(i:Int),0,(p2:Int),0⟩]=wtsL (i+1):=by rw [wtsL_succ,ep4,ep2]
     clear ep4 ep2
     rw [eWs] at oW3
     have bsw:∀ {lit:Bool},bsA prog lit Z2 33 1 [(0,.agg [.int .i64 (1+(p4:Int)),.int .i64 (i:Int),.int .i64 0,.int .i64 (p2:Int),.int .i64 0])]=some (.slice (some ⟨Z2.length,0,0⟩) 1 1,Z2++[rowE encW 50 [⟨1+(p4:Int),(i:Int),0,(p2:Int),0⟩] 0]):=fun {lit}=>bsWW1 (w:=⟨1+(p4:Int),(i:Int),0,(p2:Int),0⟩)
     have gB3':=gB3
     have gA3':=gA3
     have g1:∀ {a:ABlk},(Z2++[a])[T1.length+1]?=_:=fun {a}=>get_app gB2
     unfold ribB at gA eZ2 gB2 g1
     have hsp:=@Nat.succ_ne_zero;repeat' (first|simp (disch:=first|exact dq|fail) only [go_sem,↓reduceIte,hsp,k0,k21,k22,k23,k242,k248,k249,u242,hlti,gA,ea1,gA1,← eZ2,gB2,n4,n2,bsw,g1,ea2,gB3']|refine WP_drw ?_|refine cnd_intro (fun hsp=>?_) fun hsp=>?_)
     refine ⟨agq,by omega,x3Z.set (by omega),v',w',?_,rfl,oF3.setBox gB3,oW3.setBox gB3⟩
     exact gA3
    ·rintro fr3 J hD ⟨k249,xJ,fv,wv,gA,gB,oF,oW⟩
     have k0:=hD 0 rfl
     have k21:=hD 21 rfl
     have k22:=hD 22 rfl
     have k23:=hD 23 rfl
     have k242:=hD 242 rfl
     have k248:=hD 248 rfl
     try simp (disch:=first|exact dq|fail) only [go_sem,↓reduceIte,u242] at k0 k21 k22 k23 k242 k248
     have hlti:((n:Int)<(n:Int))=False:=eq_false (by omega)
     have hJl:=((xhH.trans xT1).trans xJ).len
     have lA:=lt_of_get gA
     have lB:=lt_of_get gB
     have ofv:=oF.one
     have owv:=oW.one
     have lF:=fltL_len (n:=n)
     have lW:=wtsL_len (n:=n)
     have iF:Ints J fv (fltL n):=own_ints oF ⟨by omega,fun y hy=>by have:=fltL_b (by omega) y hy;omega⟩
     have i4:Ints J (.slice (some ⟨H.length,0,0⟩) 1 1) [4]:=ints_rowB (l:=[4]) (xJ.get gT1) ⟨by simp,by simp⟩ rfl
     have rW:Rows encW J wv (wtsL n):=oW.rows (by omega)
     obtain ⟨Y1,eY1⟩:∃ Y1,Y1=J++[ribRow (60,fv,.slice none 0 0) (9,.slice (some ⟨H.length,0,0⟩) 1 1,wv)]:=⟨_,rfl⟩
     have xY1:Ext J Y1:=by rw [eY1];exact .app .refl
     have gY:Y1[J.length]?=some (ribRow (60,fv,.slice none 0 0) (9,.slice (some ⟨H.length,0,0⟩) 1 1,wv)):=by rw [eY1];exact get_eq rfl
     have bsR:=fun lit (hl:lit=false)=>bsR2 (lit:=lit) (H:=J) (L1:=60) (f1:=fv) (w1:=.slice none 0 0) (L2:=9) (f2:=.slice (some ⟨H.length,0,0⟩) 1 1) (w2:=wv) hl
     rw [← eY1] at bsR
     have gBJ:=gB
     unfold ribB at gA gB
     have hsp:=@Nat.succ_ne_zero;repeat' (first|simp (disch:=first|exact dq|fail) only [go_sem,↓reduceIte,hsp,k0,k21,k22,k23,k242,k248,k249,u242,hlti,gA,gB,bsR]|refine WP_drw ?_|refine cnd_intro (fun hsp=>?_) fun hsp=>?_)
     refine WP_count [(0,0),(25,26),(276,317)] 0 2 (Nat.zero_le _) (fun _ k fr h'=>fr 276=.int .i64 (k:Int)∧Ext Y1 h') ?_ ?_ ?_
     ·exact ⟨by (simp (disch:=first|exact dq|fail) only [go_sem,↓reduceIte,Int.natCast_zero];first|done|rfl),.refl⟩
     ·rintro k fr4 W hk0 hk hE ⟨q276,xW⟩
      have q21:=hE 21 rfl
      have q23:=hE 23 rfl
      have q242:=hE 242 rfl
      have q274:=hE 274 rfl
      have q275:=hE 275 rfl
      try simp (disch:=first|exact dq|fail) only [go_sem,↓reduceIte,k21,k21,k23,k23,k242,k242] at q21 q23 q242 q274 q275
      have hltk:((k:Int)<2)=True:=eq_true (by omega)
      obtain ⟨⟨L,fk,wk⟩,ey,ldK⟩:=ldR2 (xW.get gY) hk
      dsimp only at ldK
      have xJW:=xY1.trans xW
      have hhW:=(((xhH.trans xT1).trans xJ).trans xJW).len
      obtain ⟨b1,f1⟩:∃ b:Bool,decide ((n:Int)<13)=b:=⟨_,rfl⟩
      obtain ⟨b2,f2⟩:∃ b:Bool,decide ((n:Int)<7)=b:=⟨_,rfl⟩
      have tw:=two_chk (show n<14 from hn)
      rw [f1,f2] at tw
      obtain ⟨R,aR,lRF,lRW,one1,one2,hc⟩:∃ R,RibAt W (.agg [.int .i64 L,fk,wk]) R∧R.F.length≤1000∧R.W.length≤1000∧One fk∧One wk∧decide (chkR R=0)=[b1,b2].getD k false:=by
       rcases (by omega:k=0 ∨ k=1) with c|c<;>subst c<;>cases ey
       ·exact ⟨⟨60,fltL n,[]⟩,⟨_,_,rfl,iF.ext xJW,Rows.nil⟩,by show (fltL n).length≤_;omega,by simp,ofv,⟨rfl,rfl,rfl⟩,tw.1⟩
       ·exact ⟨⟨9,[4],wtsL n⟩,⟨_,_,rfl,i4.ext xJW,rW.ext xJW⟩,by simp,by show (wtsL n).length≤_;omega,⟨rfl,rfl,rfl⟩,owv,tw.2⟩
      obtain ⟨W1,eW1⟩:∃ W1,W1=W++[ribB L fk wk]:=⟨_,rfl⟩
      have xW1:Ext W W1:=by rw [eW1];exact .app .refl
      have gW1:W1[W.length]?=some (ribB L fk wk):=by rw [eW1];exact get_eq rfl
      have aR1:=aR.ext xW1
      have RN:RibN 1048576 W1 (.agg [.int .i64 L,fk,wk]):=⟨R,aR1,by omega,by omega⟩
      have c1:=fun base=>run_CutRibbons (base:=base) RN (v1:=.agg [.int .i64 0,.int .i64 0,.bool false]) (v2:=.int .i64 2) ⟨⟨_,_,_⟩,rfl⟩ ⟨2,rfl⟩
      have c2:=fun base=>run_CutPlans (base:=base) RN (v1:=.slice none 0 0) ⟨[],Rows.nil,by simp⟩
      have c3:=fun base=>run_CutMost (base:=base) RN
      have c4:=fun base=>run_CutFaults (base:=base) RN (v1:=.int .i64 1) ⟨1,rfl,by omega,by omega⟩
      have c5:=fun base=>run_CutValues (base:=base) RN (v1:=.slice none 0 0) ⟨[],ints_nil,by simp⟩
      have c6:=fun base=>run_Check (base:=base) aR1 (by omega)
      obtain ⟨c,ec⟩:∃ c,c=chkR R:=⟨_,rfl⟩
      rw [← ec] at c6 hc
      have ad2:=fun n=>adT2 (n:=n) hk
      have adR:=fun n=>adR2 (n:=n) hk
      have ld2:=fun H a b=>ldT2 (H:=H) (a:=a) (b:=b) hk
      have fin:Ext Y1 W1:=xW.trans xW1
      unfold ribB at eW1 gW1
      have hsp:=@Nat.succ_ne_zero;repeat' (first|simp (disch:=first|exact dq|fail) only [go_sem,↓reduceIte,hsp,q21,q23,q242,q274,q275,q276,k0,k21,k22,k23,k242,k248,k249,u242,hltk,adR,ldK,← eW1,gW1,c1,c2,c3,c4,c5,c6,f1,f2,hc,bsB2,ad2,ld2,neB,Bool.not_true,Bool.false_eq_true,eq_self,not_true,decide_false]|refine WP_drw ?_|refine cnd_intro (fun hsp=>?_) fun hsp=>?_)
      exact ⟨agq,by omega,fin.trans (.app .refl)⟩
     ·rintro fr4 W hE ⟨q276,xW⟩
      have q21:=hE 21 rfl
      have q23:=hE 23 rfl
      have q242:=hE 242 rfl
      have q274:=hE 274 rfl
      have q275:=hE 275 rfl
      try simp (disch:=first|exact dq|fail) only [go_sem,↓reduceIte,k21,k21,k23,k23,k242,k242] at q21 q23 q242 q274 q275
      have hltk:((((2:Nat):Int))<2)=False:=eq_false (by omega)
      have xJW:=xY1.trans xW
      have hhW:=(((xhH.trans xT1).trans xJ).trans xJW).len
      have gBW:=xJW.get gBJ
      have fin:Ext K W:=xH.trans (xT1.trans (xJ.trans xJW))
      unfold ribB at gBW
      by_cases c7:n<7
      ·have t7:((n:Int)<7)=True:=eq_true (by omega)
       have RN:RibN 1048576 W (.agg [.int .i64 9,.slice (some ⟨H.length,0,0⟩) 1 1,wv]):=⟨⟨9,[4],wtsL n⟩,⟨_,_,rfl,i4.ext xJW,rW.ext xJW⟩,by simp,by show (wtsL n).length≤_;omega⟩
       have c1:=fun base=>run_CutWants (base:=base) RN (v1:=.int .i64 ((n:Int)-1)) ⟨_,rfl⟩
       have hsp:=@Nat.succ_ne_zero;repeat' (first|simp (disch:=first|exact dq|fail) only [go_sem,↓reduceIte,hsp,q21,q23,q242,q274,q275,q276,k0,k21,k22,k23,k242,k248,k249,u242,hltk,t7,gBW,c1,Bool.not_true,Bool.false_eq_true]|refine WP_drw ?_|refine cnd_intro (fun hsp=>?_) fun hsp=>?_)
       exact ⟨agq,by omega,fin⟩
      ·have t7:((n:Int)<7)=False:=eq_false (by omega)
       have hsp:=@Nat.succ_ne_zero;repeat' (first|simp (disch:=first|exact dq|fail) only [go_sem,↓reduceIte,hsp,q21,q23,q242,q274,q275,q276,k0,k21,k22,k23,k242,k248,k249,u242,hltk,t7]|refine WP_drw ?_|refine cnd_intro (fun hsp=>?_) fun hsp=>?_)
       exact ⟨agq,by omega,fin⟩
   ·rintro fr2 H hC ⟨u242,xH⟩
    have hlt2:((((14:Nat):Int))<14)=False:=eq_false (by omega)
    have hsp:=@Nat.succ_ne_zero;repeat' (first|simp (disch:=first|exact dq|fail) only [go_sem,↓reduceIte,hsp,u242,hlt2,run_awake]|refine WP_drw ?_|refine cnd_intro (fun hsp=>?_) fun hsp=>?_)
    exact fB rfl (x1K.trans xH)
end Go.AM
