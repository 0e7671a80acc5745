/-
  LaceSmall, walked.
-/
import Derived.Test.YteanoaejoddnbaaGreatU28
set_option linter.unusedSimpArgs false
set_option linter.unusedVariables false
namespace Go.AM
open Go.Proofs.Tryz
attribute [-go_sem] put_ne put_same
attribute [local go_sem ↓] put_if
theorem stZ3 {base:Nat} {l:List Oper} {s:St} {Q:AExit→St→Prop}:WP prog raw base (.region 9 l.toArray true) s Q=WPS prog raw base (.region 9 l.toArray true) s Q:=WP_stop
attribute [local go_sem ↓ 3000] stZ3
theorem stZ3b {base:Nat} {l:List Oper} {s:St} {Q:AExit→St→Prop}:WP prog raw base (.region 23 l.toArray false) s Q=WPS prog raw base (.region 23 l.toArray false) s Q:=WP_stop
attribute [local go_sem ↓ 3000] stZ3b
theorem stZ3c {base:Nat} {l:List Oper} {s:St} {Q:AExit→St→Prop}:WP prog raw base (.region 25 l.toArray false) s Q=WPS prog raw base (.region 25 l.toArray false) s Q:=WP_stop
attribute [local go_sem ↓ 3000] stZ3c
theorem stZ3d {base:Nat} {l:List Oper} {s:St} {Q:AExit→St→Prop}:WP prog raw base (.region 27 l.toArray false) s Q=WPS prog raw base (.region 27 l.toArray false) s Q:=WP_stop
attribute [local go_sem ↓ 3000] stZ3d
theorem stZ3e {base:Nat} {l:List Oper} {s:St} {Q:AExit→St→Prop}:WP prog raw base (.region 46 l.toArray true) s Q=WPS prog raw base (.region 46 l.toArray true) s Q:=WP_stop
attribute [local go_sem ↓ 3000] stZ3e
theorem stZ3f {base:Nat} {l:List Oper} {s:St} {Q:AExit→St→Prop}:WP prog raw base (.region 49 l.toArray false) s Q=WPS prog raw base (.region 49 l.toArray false) s Q:=WP_stop
attribute [local go_sem ↓ 3000] stZ3f
theorem stZ3g {base:Nat} {l:List Oper} {s:St} {Q:AExit→St→Prop}:WP prog raw base (.region 52 l.toArray false) s Q=WPS prog raw base (.region 52 l.toArray false) s Q:=WP_stop
attribute [local go_sem ↓ 3000] stZ3g
theorem stZ3h {base:Nat} {l:List Oper} {s:St} {Q:AExit→St→Prop}:WP prog raw base (.region 55 l.toArray false) s Q=WPS prog raw base (.region 55 l.toArray false) s Q:=WP_stop
attribute [local go_sem ↓ 3000] stZ3h
set_option maxRecDepth 100000 in
set_option maxHeartbeats 8000000 in
theorem run_LaceSmall {base:Nat} {h:Heap}:callL prog raw base (.fn 3 [] []) [] h=some (.bool true,h):=by
 obtain ⟨H0,eH0⟩:∃ H0,H0=h++[rowB valL 0]:=⟨_,rfl⟩
 have x0:Ext h H0:=by rw [eH0];exact .app .refl
 have g0:H0[h.length]?=some (rowB valL 0):=by rw [eH0];exact get_eq rfl
 have iL:Ints H0 (.slice (some ⟨h.length,0,0⟩) 16 16) valL:=ints_rowB g0 (sm_of (by decide) valL_rng) rfl
 have hl0:=x0.len
 have lV:valL.length=16:=rfl
 have lnV:∀ {H:Heap},lenOpA prog H 22 (.slice (some ⟨h.length,0,0⟩) 16 16)=some (.int .i64 16):=fun {H}=>by simp [lenOpA,Fc.el22,lenA]
 have eX:h++[rowB [-9223372036854775808,-1,0,1,2,3,4,5,7,8,9,255,256,999,1000,9223372036854775807] 0]=H0:=eH0.symm
 refine callL_run func3 rfl rfl ?_
 have hsp:=@Nat.succ_ne_zero;repeat' (first|simp (disch:=first|exact dq|fail) only [go_sem,↓reduceIte,hsp,bsI16,eX,lnV]|refine WP_drw ?_|refine cnd_intro (fun hsp=>?_) fun hsp=>?_)
 refine WP_count [(0,11),(36,106)] 0 16 (Nat.zero_le _) (fun _ k fr K=>fr 36=.int .i64 (k:Int)∧Ext H0 K) ?_ ?_ ?_
 ·exact ⟨by (simp (disch:=first|exact dq|fail) only [go_sem,↓reduceIte,Int.natCast_zero];first|done|rfl),.refl⟩
 ·rintro k fr K hk0 hk hA ⟨p36,xK⟩
  have p34:=hA 34 rfl
  have p35:=hA 35 rfl
  try simp (disch:=first|exact dq|fail) only [go_sem,↓reduceIte] at p34 p35
  have hlt:((k:Int)<16)=True:=eq_true (by omega)
  have iK:=iL.ext xK
  have ak:=adrI (i:=(k:Int)) (by omega) iK (by rw [lV];omega)
  rw [Int.toNat_natCast] at ak
  have gK:=xK.get g0
  have lk:∀ z,ldB (some (false,z)) (K[h.length]?) 0 k=some (.int .i64 (valL.getD k 0)):=fun z=>by rw [gK];exact ldB_ints (by rw [lV];exact hk)
  obtain ⟨n,en⟩:∃ n,n=valL.getD k 0:=⟨_,rfl⟩
  have hn:rng63 n:=by rw [en];exact valL_rng _ (getD_mem (by rw [lV];exact hk))
  simp only [← en] at lk
  have hsp:=@Nat.succ_ne_zero;repeat' (first|simp (disch:=first|exact dq|fail) only [go_sem,↓reduceIte,hsp,p34,p35,p36,hlt,ak,lk]|refine WP_drw ?_|refine cnd_intro (fun hsp=>?_) fun hsp=>?_)
  refine WP_count [(0,0),(3,11),(40,105)] 0 18 (Nat.zero_le _) (fun _ i fr G=>fr 40=.int .i64 (i:Int)∧Ext K G) ?_ ?_ ?_
  ·exact ⟨by (simp (disch:=first|exact dq|fail) only [go_sem,↓reduceIte,Int.natCast_zero];first|done|rfl),.refl⟩
  ·rintro i fr2 G hi0 hi hB ⟨d40,xG⟩
   have d2:=hB 2 rfl
   have d34:=hB 34 rfl
   have d35:=hB 35 rfl
   have d36:=hB 36 rfl
   try simp (disch:=first|exact dq|fail) only [go_sem,↓reduceIte,p34,p35,p36] at d2 d34 d35 d36
   have hlt2:((i:Int)<18)=True:=eq_true (by omega)
   have hhG:=((x0.trans xK).trans xG).len
   obtain ⟨a3,ea3,la3⟩:∃ a,a=i % 3∧a<3:=⟨_,rfl,Nat.mod_lt _ (by decide)⟩
   have m3:(i:Int).tmod 3=(a3:Int):=by rw [ea3];rfl
   clear ea3
   obtain ⟨w,H3,e3,xG3,C,R,rfl,gC,gR,hR,hRC⟩:=run_FourX (base:=h.length) (h:=G) (r:=2+a3) hhG (by omega)
   rw [show (((2+a3:Nat)):Int)=2+(a3:Int) by omega] at e3
   have lC:=lt_of_get gC
   obtain ⟨HC,eHC⟩:∃ HC,HC=H3++[rowB [2,0,1,3] 0]++[lacB 3 (.slice (some ⟨C,0,0⟩) 4 4) (.slice (some ⟨R,0,0⟩) (2+a3) 4)]++[intB1 1]++[intB1 9]++[rwB (6,5,4)]++[rowB [2,3] 0]++[rowB [3,2] 0]:=⟨_,rfl⟩
   have xC:Ext H3 HC:=by rw [eHC];exact .app (.app (.app (.app (.app (.app (.app .refl))))))
   have hlC:HC.length=H3.length+7:=by rw [eHC];simp
   obtain ⟨HP,eHP⟩:∃ HP,HP=HC++[(⟨.cells [.ptr (some ⟨H3.length+1,0,0⟩),.ptr (some ⟨C,0,1⟩),.ptr (some ⟨C,0,3⟩),.ptr (some ⟨R,0,0⟩),.ptr (some ⟨R,0,1⟩),.ptr (some ⟨R,0,2⟩),.ptr (some ⟨R,0,5⟩),.ptr (some ⟨H3.length+2,0,0⟩),.ptr (some ⟨H3.length+3,0,0⟩),.ptr (some ⟨H3.length,0,1⟩),.ptr (some ⟨H3.length,0,3⟩),.ptr (some ⟨H3.length+4,0,0⟩),.ptr (some ⟨H3.length+4,0,1⟩),.ptr (some ⟨H3.length+4,0,2⟩),.ptr (some ⟨H3.length+5,0,0⟩),.ptr (some ⟨H3.length+5,0,1⟩),.ptr (some ⟨H3.length+6,0,0⟩),.ptr (some ⟨H3.length+6,0,1⟩)] 29 true false,0⟩:ABlk)]:=⟨_,rfl⟩
   have xP:Ext HC HP:=by rw [eHP];exact .app .refl
   have st0:TnL HP dfl (2+a3) C R H3.length:=by
    have x3P:=xC.trans xP
    refine ⟨xP.get ?_,x3P.get gC,x3P.get gR,xP.get ?_,xP.get ?_,xP.get ?_,xP.get ?_,xP.get ?_,xP.get ?_,by omega⟩
    all_goals (rw [eHC];(repeat' first|exact get_eq (by simp)|refine get_app ?_))
   obtain ⟨H4,eS,st1,hl4,xS⟩:=st0.store (base:=h.length) (n:=n) (by omega) hi
   have xG4:Ext G H4:=xS G (by omega) ((xG3.trans xC).trans xP)
   have gN:HC[H3.length+1]?=some (lacB 3 (.slice (some ⟨C,0,0⟩) 4 4) (.slice (some ⟨R,0,0⟩) (2+a3) 4)):=by rw [eHC];(repeat' first|exact get_eq (by simp)|refine get_app ?_)
   have adP:indexAddrA prog 30 (.slice (some ⟨HC.length,0,0⟩) 18 18) (.int .i64 (i:Int))=some (.ptr (some ⟨HC.length,0,i⟩)):=by
    rw [adr_sl Fc.el30 Fc.ar30 (by omega) (by omega),Int.toNat_natCast,Nat.mul_one,Nat.zero_add]
   have ldP:∀ z,ldB (some (false,z)) (HP[HC.length]?) 0 i=some (.ptr (some (tgt C R H3.length i))):=fun z=>by
    rw [eHP,get_eq rfl,ldB_cell]
    rcases (by omega:i=0 ∨ i=1 ∨ i=2 ∨ i=3 ∨ i=4 ∨ i=5 ∨ i=6 ∨ i=7 ∨ i=8 ∨ i=9 ∨ i=10 ∨ i=11 ∨ i=12 ∨ i=13 ∨ i=14 ∨ i=15 ∨ i=16 ∨ i=17) with e|e|e|e|e|e|e|e|e|e|e|e|e|e|e|e|e|e<;>subst e<;>rfl
   have gO0:HC[H3.length]?=some (rowB [2,0,1,3] 0):=by rw [eHC];(repeat' first|exact get_eq (by simp)|refine get_app ?_)
   have gG0:HC[H3.length+5]?=some (rowB [2,3] 0):=by rw [eHC];(repeat' first|exact get_eq (by simp)|refine get_app ?_)
   have gI0:HC[H3.length+6]?=some (rowB [3,2] 0):=by rw [eHC];(repeat' first|exact get_eq (by simp)|refine get_app ?_)
   have iC:Ints HC (.slice (some ⟨C,0,0⟩) 4 4) [1,2,3,4]:=ints_rowB (l:=[1,2,3,4]) (xC.get gC) (sm_of (by simp) fun x hx=>by simp at hx;unfold rng63;omega) rfl
   have iO:Ints HC (.slice (some ⟨H3.length,0,0⟩) 4 4) [2,0,1,3]:=ints_rowB (l:=[2,0,1,3]) gO0 (sm_of (by simp) fun x hx=>by simp at hx;unfold rng63;omega) rfl
   have iG:Ints HC (.slice (some ⟨H3.length+5,0,0⟩) 2 2) [2,3]:=ints_rowB (l:=[2,3]) gG0 (sm_of (by simp) fun x hx=>by simp at hx;unfold rng63;omega) rfl
   have iI:Ints HC (.slice (some ⟨H3.length+6,0,0⟩) 2 2) [3,2]:=ints_rowB (l:=[3,2]) gI0 (sm_of (by simp) fun x hx=>by simp at hx;unfold rng63;omega) rfl
   have stk:=st1
   obtain ⟨gB,-,-,-,gP,gT,gW,-,-,_⟩:=st1
   have LL:=stk.lac (by omega) (upd_rng dfl_rng hn)
   have OO:=stk.ord (upd_rng dfl_rng hn)
   have GG:=stk.gap (upd_rng dfl_rng hn)
   have II:=stk.ring (upd_rng dfl_rng hn)
   have ask:=fun base=>run_asked (base:=base) (p:=upd dfl i n 7) (n:=upd dfl i n 8) (r:=(upd dfl i n 11,upd dfl i n 12,upd dfl i n 13)) LL OO GG II
   have hh4:h.length≤H4.length:=by have:=xG4.len;omega
   have fin:Ext K H4:=xG.trans xG4
   unfold lacB at gN gB
   unfold intB1 at gP gT
   unfold rwB at gW
   unfold lacB intB1 rwB at eHC
   generalize tgt C R H3.length i=tg at ldP eS
   obtain ⟨id,ver,o⟩:=tg
   have eS':stQ h.length id (HP[id]?) ver o [.int .i64 n] (fun b=>HP.set id b)=some H4:=by
    rw [Fc.st3 ⟨rfl,rfl,rfl⟩] at eS
    cases hq:stQ h.length id (HP[id]?) ver o [.int .i64 n] (fun b=>HP.set id b) with
    | none=>rw [hq] at eS;cases eS
    | some X=>rw [hq] at eS;simp only [Option.map_some,Option.some.injEq,Prod.mk.injEq,true_and] at eS;rw [eS]
   clear eS st0 en iL iK lV
   have hsp:=@Nat.succ_ne_zero;repeat' (first|simp (disch:=first|exact dq|fail) only [go_sem,↓reduceIte,hsp,d2,d34,d35,d36,d40,p34,p35,p36,hlt2,m3,e3,bs4,bsI2,← eHC,gN]|refine WP_drw ?_|refine cnd_intro (fun hsp=>?_) fun hsp=>?_)
   refine WPS_go ?_
   refine WP_draw (by kernel_rfl) ?_ (by kernel_rfl)
   have hsp:=@Nat.succ_ne_zero;repeat' (first|simp (disch:=first|exact dq|fail) only [go_sem,↓reduceIte,hsp,d2,d34,d35,d36,d40,p34,p35,p36,gN,bsP18,← eHP,adP,ldP,nck,eS',gB,gP,gT,gW,ask]|refine WP_drw ?_|refine cnd_intro (fun hsp=>?_) fun hsp=>?_)
   exact ⟨agq,by omega,fin⟩
  ·rintro fr2 G hB ⟨d40,xG⟩
   have d2:=hB 2 rfl
   have d34:=hB 34 rfl
   have d35:=hB 35 rfl
   have d36:=hB 36 rfl
   try simp (disch:=first|exact dq|fail) only [go_sem,↓reduceIte,p34,p35,p36] at d2 d34 d35 d36
   have hlt2:(((18:Nat):Int)<18)=False:=eq_false (by omega)
   have hlt3:((18:Int)<18)=False:=eq_false (by omega)
   have hsp:=@Nat.succ_ne_zero;repeat' (first|simp (disch:=first|exact dq|fail) only [go_sem,↓reduceIte,hsp,d2,d34,d35,d36,d40,p34,p35,p36,hlt2,hlt3]|refine WP_drw ?_|refine cnd_intro (fun hsp=>?_) fun hsp=>?_)
   exact ⟨agq,by omega,xK.trans xG⟩
 ·rintro fr K hA ⟨p36,xK⟩
  have p34:=hA 34 rfl
  have p35:=hA 35 rfl
  try simp (disch:=first|exact dq|fail) only [go_sem,↓reduceIte] at p34 p35
  have hlt:(((16:Nat):Int)<16)=False:=eq_false (by omega)
  have hlt':((16:Int)<16)=False:=eq_false (by omega)
  have xhK:=x0.trans xK
  have hsp:=@Nat.succ_ne_zero;repeat' (first|simp (disch:=first|exact dq|fail) only [go_sem,↓reduceIte,hsp,p36,p34,p35,hlt,hlt']|refine WP_drw ?_|refine cnd_intro (fun hsp=>?_) fun hsp=>?_)
  refine WP_count [(0,181)] 0 6 (Nat.zero_le _) (fun _ c fr G=>fr 107=.int .i64 (c:Int)∧Ext K G) ?_ ?_ ?_
  ·exact ⟨by (simp (disch:=first|exact dq|fail) only [go_sem,↓reduceIte,Int.natCast_zero];first|done|rfl),.refl⟩
  ·rintro c fr1 G hc0 hc hB ⟨d107,xG⟩
   have hlt:((c:Int)<6)=True:=eq_true (by omega)
   have xhG:=xhK.trans xG
   have hhG:=xhG.len
   obtain ⟨os,eos⟩:∃ os,os=ordsF (fun _ _=>true) c c []:=⟨_,rfl⟩
   have hos:∀ o ∈ os,Ord c o:=fun o ho=>all_ord (by rw [← eos];exact ho)
   have hln:os.length≤120:=by rw [eos];exact ords_few hc
   obtain ⟨w,H1,e1,x1,aX⟩:=run_Orders (base:=h.length) (b:=G.length) (n:=c) (by omega) (by omega) c (l:=[]) (lv:=.slice none 0 0) (h:=G) (by simp) List.nodup_nil (by simp) (Nat.le_refl _) (.inl Own.nil)
   rw [← eos] at aX
   clear eos
   have aB:AllB G.length H1 w os:=aX.all (Nat.le_refl _) (Nat.le_refl _)
   have lw:=aB.all.len (by omega)
   have oww:=aX.one
   have hsp:=@Nat.succ_ne_zero;repeat' (first|simp (disch:=first|exact dq|fail) only [go_sem,↓reduceIte,hsp,d107,hlt,e1,lw]|refine WP_drw ?_|refine cnd_intro (fun hsp=>?_) fun hsp=>?_)
   refine WP_count [(0,18),(113,180)] 0 os.length (Nat.zero_le _) (fun _ i fr Z=>fr 113=.int .i64 (i:Int)∧Ext H1 Z) ?_ ?_ ?_
   ·exact ⟨by (simp (disch:=first|exact dq|fail) only [go_sem,↓reduceIte,Int.natCast_zero];first|done|rfl),.refl⟩
   ·rintro i fr2 Z hi0 hi hC ⟨e113,xZ⟩
    have e107:=hC 107 rfl
    have e111:=hC 111 rfl
    have e112:=hC 112 rfl
    try simp (disch:=first|exact dq|fail) only [go_sem,↓reduceIte,d107] at e107 e111 e112
    have hlti:((i:Int)<(os.length:Int))=True:=eq_true (by omega)
    obtain ⟨o,ho⟩:∃ o,os[i]?=some o:=⟨_,List.getElem?_eq_getElem hi⟩
    have hord:=hos o (List.mem_of_getElem? ho)
    obtain ⟨ad,x,ea,el,ox⟩:=aB.at (A:=H1) (by omega) ho
    have elZ:=el Z xZ
    have oxo:=ox.one
    have iX:Ints Z x o:=ownE_ints (ox.ext xZ) (ord_small hord (by omega))
    have hZ:=((xhG.trans x1).trans xZ).len
    obtain ⟨_,Z1,e2,y1,pv,vs,rfl,P1⟩:=run_Piles (base:=h.length) (h:=Z) (by omega) iX
    have ly1:=y1.len
    obtain ⟨_,Z2,e3,y2,mv,rfl,M1⟩:=run_Mend (base:=h.length) (h:=Z1) (by omega) (iX.ext y1)
    have ly2:=y2.len
    obtain ⟨hpb,hml⟩:=pil_mnd (by omega) hord
    obtain ⟨ps,eps⟩:∃ ps,ps=(pilE o).1:=⟨_,rfl⟩
    obtain ⟨pe,epe⟩:∃ pe,pe=(pilE o).2:=⟨_,rfl⟩
    obtain ⟨ms,ems⟩:∃ ms,ms=(mndE o).1:=⟨_,rfl⟩
    obtain ⟨me,eme⟩:∃ me,me=(mndE o).2:=⟨_,rfl⟩
    rw [← eps] at P1 hpb
    rw [← epe] at e2
    rw [← ems] at M1 hml
    rw [← eme] at e3
    clear eps epe ems eme
    have P2:=P1.ext y2
    have opv:=P2.own.one
    have omv:=M1.one
    have hpl:=hpb.1
    have hvl:=P2.len
    have lpv:lenOpA prog Z2 32 pv=some (.int .i64 (ps.length:Int)):=P2.all.len (by omega)
    obtain ⟨a5,ea5,la5⟩:∃ a,a=i % 5∧a<5:=⟨_,rfl,Nat.mod_lt _ (by decide)⟩
    obtain ⟨a7,ea7,la7⟩:∃ a,a=i % 7∧a<7:=⟨_,rfl,Nat.mod_lt _ (by decide)⟩
    obtain ⟨a11,ea11,la11⟩:∃ a,a=i % 11∧a<11:=⟨_,rfl,Nat.mod_lt _ (by decide)⟩
    obtain ⟨a6,ea6,la6⟩:∃ a,a=i % 6∧a<6:=⟨_,rfl,Nat.mod_lt _ (by decide)⟩
    obtain ⟨a3,ea3,la3⟩:∃ a,a=i % 3∧a<3:=⟨_,rfl,Nat.mod_lt _ (by decide)⟩
    obtain ⟨q3,eq3,lq3⟩:∃ a,a=i / 3∧a≤120:=⟨_,rfl,by omega⟩
    obtain ⟨q6,eq6,lq6⟩:∃ a,a=q3 % 6∧a<6:=⟨_,rfl,Nat.mod_lt _ (by decide)⟩
    have m5:(i:Int).tmod 5=(a5:Int):=by rw [ea5];rfl
    have m7:(i:Int).tmod 7=(a7:Int):=by rw [ea7];rfl
    have m11:(i:Int).tmod 11=(a11:Int):=by rw [ea11];rfl
    have m6:(i:Int).tmod 6=(a6:Int):=by rw [ea6];rfl
    have m3:(i:Int).tmod 3=(a3:Int):=by rw [ea3];rfl
    have d3:(i:Int).tdiv 3=(q3:Int):=by rw [eq3];rfl
    have m36:(q3:Int).tmod 6=(q6:Int):=by rw [eq6];rfl
    clear ea5 ea7 ea11 ea6 ea3 eq3 eq6
    have eZ2:Ext Z Z2:=y1.trans y2
    have hsp:=@Nat.succ_ne_zero;repeat' (first|simp (disch:=first|exact dq|fail) only [go_sem,↓reduceIte,hsp,e107,e111,e112,e113,hlti,ea,elZ,e2,e3]|refine WP_drw ?_|refine cnd_intro (fun hsp=>?_) fun hsp=>?_)
    refine WPS_restF fun Y eY=>?_
    rw [← WP_seq]
    have kY13:=congrFun eY 13
    have kY14:=congrFun eY 14
    have kY15:=congrFun eY 15
    have kY17:=congrFun eY 17
    have kY113:=congrFun eY 113
    try simp (disch:=first|exact dq|fail) only [go_sem,↓reduceIte,e113] at kY13 kY14 kY15 kY17 kY113
    have aY:Agree [(0,18),(113,180)] Y fr2:=by rw [eY];exact agq
    clear eY
    refine WP_meet (fun fr h'=>Agree [(128,145)] fr Y∧∃ vs ps,PilAt Z.length h' pv vs ps∧PilB ps∧Own encM 41 Z1.length h' mv ms∧Ext Z h') ?_ ?_
    ·rw [WP_seq,WP_region]
     by_cases c1:1<ps.length
     ·have t1:((ps.length:Int) > 1)=True:=eq_true (by omega)
      by_cases c5:a5=0
      ·have t5:((a5:Int)=0)=True:=eq_true (by omega)
       obtain ⟨id,ver,w0,w1,X2,X3,s0,s1,epv,d0,d1,ow0,ow1,st1,st2,l3,ex,M3,h0,h1,P3⟩:=P2.swp (base:=h.length) (by omega) c1 (by omega) M1
       have ad0:indexAddrA prog 32 pv (.int .i64 0)=some (.ptr (some ⟨id,ver,0⟩)):=by
        rw [epv,adr_sl Fc.el32 Fc.ar32 (by omega) (by omega)];rfl
       have ad1:indexAddrA prog 32 pv (.int .i64 1)=some (.ptr (some ⟨id,ver,1⟩)):=by
        rw [epv,adr_sl Fc.el32 Fc.ar32 (by omega) (by omega)];rfl
       have eX3:=ex Z (Nat.le_refl _) eZ2
       have B3:=hpb.swp h0 h1
       clear epv
       have hsp:=@Nat.succ_ne_zero;repeat' (first|simp (disch:=first|exact dq|fail) only [go_sem,↓reduceIte,hsp,kY13,kY14,kY15,kY17,kY113,lpv,t1,m5,t5,ad0,ad1,d0,d1,st1,st2]|refine WP_drw ?_|refine cnd_intro (fun hsp=>?_) fun hsp=>?_)
       exact ⟨agq,_,_,P3,B3,M3,eX3⟩
      ·have t5:((a5:Int)=0)=False:=eq_false (by omega)
       have hsp:=@Nat.succ_ne_zero;repeat' (first|simp (disch:=first|exact dq|fail) only [go_sem,↓reduceIte,hsp,kY13,kY14,kY15,kY17,kY113,lpv,t1,m5,t5]|refine WP_drw ?_|refine cnd_intro (fun hsp=>?_) fun hsp=>?_)
       exact ⟨agq,_,_,P2,hpb,M1,eZ2⟩
     ·have t1:((ps.length:Int) > 1)=False:=eq_false (by omega)
      have hsp:=@Nat.succ_ne_zero;repeat' (first|simp (disch:=first|exact dq|fail) only [go_sem,↓reduceIte,hsp,kY13,kY14,kY15,kY17,kY113,lpv,t1]|refine WP_drw ?_|refine cnd_intro (fun hsp=>?_) fun hsp=>?_)
      exact ⟨agq,_,_,P2,hpb,M1,eZ2⟩
    ·rintro fr4 X ⟨hA4,vs',ps',P3,hpb',M3,xX⟩
     have y13:=hA4 13 rfl
     have y14:=hA4 14 rfl
     have y15:=hA4 15 rfl
     have y17:=hA4 17 rfl
     have y113:=hA4 113 rfl
     try simp (disch:=first|exact dq|fail) only [go_sem,↓reduceIte,kY13,kY14,kY15,kY17,kY113] at y13 y14 y15 y17 y113
     have hsp:=@Nat.succ_ne_zero;repeat' (first|simp (disch:=first|exact dq|fail) only [go_sem,↓reduceIte,hsp,y13,y14,y15,y17,y113]|refine WP_drw ?_|refine cnd_intro (fun hsp=>?_) fun hsp=>?_)
     refine WPS_restF fun U eU=>?_
     rw [← WP_seq]
     have kU13:=congrFun eU 13
     have kU14:=congrFun eU 14
     have kU15:=congrFun eU 15
     have kU17:=congrFun eU 17
     have kU113:=congrFun eU 113
     try simp (disch:=first|exact dq|fail) only [go_sem,↓reduceIte,y13,y14,y15,y17,y113] at kU13 kU14 kU15 kU17 kU113
     have aU:Agree [(128,145)] U Y:=by rw [eU];exact agq
     clear eU
     have lX:=xX.len
     have lX1:Z1.length≤X.length ∨ ms=[]:=by
      rcases M3 with ⟨_,q⟩|⟨id,ver,_,g,q,_⟩
      ·exact .inr q
      ·have:=lt_of_get g;exact .inl (by omega)
     have M3':Own encM 41 Z.length X mv ms:=M3.low (by omega)
     refine WP_meet (fun fr h'=>Agree [(17,17),(146,157)] fr U∧∃ mv' ms',fr 17=mv'∧PilAt Z.length h' pv vs' ps'∧Own encM 41 Z.length h' mv' ms'∧ms'.length≤8∧Ext Z h') ?_ ?_
     ·rw [WP_seq,WP_region]
      by_cases c7:a7=0
      ·have t7:((a7:Int)=0)=True:=eq_true (by omega)
       obtain ⟨X1,eX1⟩:∃ X1,X1=X++[rowE encM 41 [((a3:Int),(q6:Int))] 0]:=⟨_,rfl⟩
       have z1:Ext X X1:=by rw [eX1];exact .app .refl
       have lX1':X1.length=X.length+1:=by rw [eX1];simp
       obtain ⟨mv',X2,eap,M4,l4,xe,om4,kM⟩:=(M3'.ext z1).appendRX (P:=prog) (base:=h.length) (x:=.slice (some ⟨X.length,0,0⟩) 1 1) (m:=[((a3:Int),(q6:Int))]) (t:=37) (Rows.own (by rw [eX1];exact get_eq rfl) rfl (by simp)) Fc.el37 encM_sc (by omega) (by omega) (by simp) (by simp;omega)
       have kM:KeepO encM 41 X1 X2:=kM
       have P4:=(P3.ext z1).keep kM
       have eX2:=xe Z (Nat.le_refl _) (xX.trans z1)
       have hsp:=@Nat.succ_ne_zero;repeat' (first|simp (disch:=first|exact dq|fail) only [go_sem,↓reduceIte,hsp,kU13,kU14,kU15,kU17,kU113,m7,t7,m3,d3,m36,bsM1,← eX1,eap]|refine WP_drw ?_|refine cnd_intro (fun hsp=>?_) fun hsp=>?_)
       exact ⟨agq,mv',_,by simp (disch:=first|exact dq|fail) only [go_sem,↓reduceIte],P4,M4,by simp;omega,eX2⟩
      ·have t7:((a7:Int)=0)=False:=eq_false (by omega)
       have hsp:=@Nat.succ_ne_zero;repeat' (first|simp (disch:=first|exact dq|fail) only [go_sem,↓reduceIte,hsp,kU13,kU14,kU15,kU17,kU113,m7,t7]|refine WP_drw ?_|refine cnd_intro (fun hsp=>?_) fun hsp=>?_)
       exact ⟨agq,mv,ms,by simp (disch:=first|exact dq|fail) only [go_sem,↓reduceIte,kU13,kU14,kU15,kU17,kU113],P3,M3',by omega,xX⟩
     ·rintro fr5 X5 ⟨hA5,mv',ms',v17,P5,M5,hms',xX5⟩
      have v13:=hA5 13 rfl
      have v14:=hA5 14 rfl
      have v15:=hA5 15 rfl
      have v113:=hA5 113 rfl
      try simp (disch:=first|exact dq|fail) only [go_sem,↓reduceIte,kU13,kU14,kU15,kU113] at v13 v14 v15 v113
      have omv':=M5.one
      have hsp:=@Nat.succ_ne_zero;repeat' (first|simp (disch:=first|exact dq|fail) only [go_sem,↓reduceIte,hsp,v13,v14,v15,v113,v17]|refine WP_drw ?_|refine cnd_intro (fun hsp=>?_) fun hsp=>?_)
      refine WPS_restF fun W eW=>?_
      rw [← WP_seq]
      have kW13:=congrFun eW 13
      have kW14:=congrFun eW 14
      have kW15:=congrFun eW 15
      have kW17:=congrFun eW 17
      have kW113:=congrFun eW 113
      try simp (disch:=first|exact dq|fail) only [go_sem,↓reduceIte,v13,v14,v15,v17,v113] at kW13 kW14 kW15 kW17 kW113
      have aW:Agree [(17,17),(146,157)] W U:=by rw [eW];exact agq
      clear eW
      have lX5:=xX5.len
      have hpl':=hpb'.1
      have hvl':=P5.len
      have lpv5:lenOpA prog X5 32 pv=some (.int .i64 (ps'.length:Int)):=P5.all.len (by omega)
      have MN:MovN 1048576 X5 mv':=⟨_,M5.rows (by omega),by omega⟩
      have PN:PilN 1048576 X5 pv:=P5.pil hpl' fun t ht=>by have:=hpb'.2 t ht;exact ⟨by omega,this.2⟩
      refine WP_meet (fun fr h'=>Agree [(158,174)] fr W∧PilN 1048576 h' pv∧MovN 1048576 h' mv'∧Ext Z h') ?_ ?_
      ·rw [WP_seq,WP_region]
       by_cases c1:0<ps'.length
       ·have t1:((ps'.length:Int) > 0)=True:=eq_true (by omega)
        by_cases c11:a11=0
        ·have t11:((a11:Int)=0)=True:=eq_true (by omega)
         obtain ⟨w0,hw0⟩:∃ w,vs'[0]?=some w:=⟨_,List.getElem?_eq_getElem (by omega)⟩
         obtain ⟨s0,hs0⟩:∃ w,ps'[0]?=some w:=⟨_,List.getElem?_eq_getElem (by omega)⟩
         have hsl:=(hpb'.2 s0 (List.mem_of_getElem? hs0)).1
         obtain ⟨w',X6,X7,id,ver,ow',epv,d0,eap,st,l7,ex,P7,M7⟩:=P5.put2 (base:=h.length) (p:=(a6:Int)) (by omega) (by omega) hw0 hs0 (by omega) (by omega) M5
         have ow0:=(P5.el 0 w0 s0 hw0 hs0).one
         have ad0:indexAddrA prog 32 pv (.int .i64 0)=some (.ptr (some ⟨id,ver,0⟩)):=by
          rw [epv,adr_sl Fc.el32 Fc.ar32 (by omega) (by omega)];rfl
         obtain ⟨b1,b2⟩:=hpb'.put (p:=(a6:Int)) hs0 (by omega)
         have PN7:PilN 1048576 X7 pv:=P7.pil b1 b2
         have MN7:MovN 1048576 X7 mv':=⟨_,M7.rows (by omega),by omega⟩
         have eX7:=ex Z (Nat.le_refl _) xX5
         clear epv b1 b2
         have hsp:=@Nat.succ_ne_zero;repeat' (first|simp (disch:=first|exact dq|fail) only [go_sem,↓reduceIte,hsp,kW13,kW14,kW15,kW17,kW113,lpv5,t1,m11,t11,ad0,d0,m6,eap,st]|refine WP_drw ?_|refine cnd_intro (fun hsp=>?_) fun hsp=>?_)
         exact ⟨agq,PN7,MN7,eX7⟩
        ·have t11:((a11:Int)=0)=False:=eq_false (by omega)
         have hsp:=@Nat.succ_ne_zero;repeat' (first|simp (disch:=first|exact dq|fail) only [go_sem,↓reduceIte,hsp,kW13,kW14,kW15,kW17,kW113,lpv5,t1,m11,t11]|refine WP_drw ?_|refine cnd_intro (fun hsp=>?_) fun hsp=>?_)
         exact ⟨agq,PN,MN,xX5⟩
       ·have t1:((ps'.length:Int) > 0)=False:=eq_false (by omega)
        have hsp:=@Nat.succ_ne_zero;repeat' (first|simp (disch:=first|exact dq|fail) only [go_sem,↓reduceIte,hsp,kW13,kW14,kW15,kW17,kW113,lpv5,t1]|refine WP_drw ?_|refine cnd_intro (fun hsp=>?_) fun hsp=>?_)
        exact ⟨agq,PN,MN,xX5⟩
      ·rintro fr6 X8 ⟨hA6,PN8,MN8,xX8⟩
       have j13:=hA6 13 rfl
       have j14:=hA6 14 rfl
       have j15:=hA6 15 rfl
       have j17:=hA6 17 rfl
       have j113:=hA6 113 rfl
       try simp (disch:=first|exact dq|fail) only [go_sem,↓reduceIte,kW13,kW14,kW15,kW17,kW113] at j13 j14 j15 j17 j113
       have ask:=fun base=>run_LaceMends (base:=base) (v0:=x) ⟨o,iX.ext xX8,by have:=hord.1;omega⟩ PN8 MN8
       have hsp:=@Nat.succ_ne_zero;repeat' (first|simp (disch:=first|exact dq|fail) only [go_sem,↓reduceIte,hsp,j13,j14,j15,j17,j113,ask]|refine WP_drw ?_|refine cnd_intro (fun hsp=>?_) fun hsp=>?_)
       exact ⟨agq,by omega,xZ.trans xX8⟩
   ·rintro fr2 Z hC ⟨e113,xZ⟩
    have e107:=hC 107 rfl
    have e111:=hC 111 rfl
    have e112:=hC 112 rfl
    try simp (disch:=first|exact dq|fail) only [go_sem,↓reduceIte,d107] at e107 e111 e112
    have hlti:((os.length:Int)<(os.length:Int))=False:=eq_false (by omega)
    have hsp:=@Nat.succ_ne_zero;repeat' (first|simp (disch:=first|exact dq|fail) only [go_sem,↓reduceIte,hsp,e107,e111,e112,e113,d107,hlti]|refine WP_drw ?_|refine cnd_intro (fun hsp=>?_) fun hsp=>?_)
    exact ⟨agq,by omega,xG.trans (x1.trans xZ)⟩
  ·rintro fr1 G hB ⟨d107,xG⟩
   have hlt:(((6:Nat):Int)<6)=False:=eq_false (by omega)
   have hlt':((6:Int)<6)=False:=eq_false (by omega)
   have xhG:=xhK.trans xG
   have hsp:=@Nat.succ_ne_zero;repeat' (first|simp (disch:=first|exact dq|fail) only [go_sem,↓reduceIte,hsp,d107,hlt,hlt']|refine WP_drw ?_|refine cnd_intro (fun hsp=>?_) fun hsp=>?_)
   refine WP_count [(0,312)] 0 80 (Nat.zero_le _) (fun _ n fr J=>fr 182=.int .i64 (n:Int)∧Ext h J) ?_ ?_ ?_
   ·exact ⟨by (simp (disch:=first|exact dq|fail) only [go_sem,↓reduceIte,Int.natCast_zero];first|done|rfl),xhG⟩
   ·rintro n fr1 J hn0 hn hB ⟨d182,xhJ⟩
    have hlt:((n:Int)<80)=True:=eq_true (by omega)
    have hhJ:=xhJ.len
    obtain ⟨a3,ea3,la3⟩:∃ a,a=n % 3∧a<3:=⟨_,rfl,Nat.mod_lt _ (by decide)⟩
    obtain ⟨a4,ea4,la4⟩:∃ a,a=n % 4∧a<4:=⟨_,rfl,Nat.mod_lt _ (by decide)⟩
    obtain ⟨a5,ea5,la5⟩:∃ a,a=n % 5∧a<5:=⟨_,rfl,Nat.mod_lt _ (by decide)⟩
    obtain ⟨a6,ea6,la6⟩:∃ a,a=n % 6∧a<6:=⟨_,rfl,Nat.mod_lt _ (by decide)⟩
    obtain ⟨b20,eb20,lb20⟩:∃ a,a=n % 20∧a<20:=⟨_,rfl,Nat.mod_lt _ (by decide)⟩
    obtain ⟨q2,eq2,lq2⟩:∃ a,a=n / 2∧a≤80:=⟨_,rfl,by omega⟩
    obtain ⟨q6,eq6,lq6⟩:∃ a,a=q2 % 6∧a<6:=⟨_,rfl,Nat.mod_lt _ (by decide)⟩
    have m3:(n:Int).tmod 3=(a3:Int):=by rw [ea3];rfl
    have m4:(n:Int).tmod 4=(a4:Int):=by rw [ea4];rfl
    have m5:(n:Int).tmod 5=(a5:Int):=by rw [ea5];rfl
    have m6:(n:Int).tmod 6=(a6:Int):=by rw [ea6];rfl
    have m20:(n:Int).tmod 20=(b20:Int):=by rw [eb20];rfl
    have d2:(n:Int).tdiv 2=(q2:Int):=by rw [eq2];rfl
    have m26:(q2:Int).tmod 6=(q6:Int):=by rw [eq6];rfl
    clear ea3 ea4 ea5 ea6 eb20 eq2 eq6
    obtain ⟨P,hP1,hP2,shP⟩:=shl_P la3
    have tP:((P:Int)=0)=False:=eq_false (by omega)
    obtain ⟨J0,eJ0⟩:∃ J0,J0=J++[lacB (2+(a3:Int)) (.slice none 0 0) (.slice none 0 0)]:=⟨_,rfl⟩
    have gN0:J0[J.length]?=some (lacB (2+(a3:Int)) (.slice none 0 0) (.slice none 0 0)):=by rw [eJ0];exact get_eq rfl
    have xJ0:Ext J J0:=by rw [eJ0];exact .app .refl
    unfold lacB at eJ0
    have hsp:=@Nat.succ_ne_zero;repeat' (first|simp (disch:=first|exact dq|fail) only [go_sem,↓reduceIte,hsp,d182,hlt,m3,← eJ0,m5]|refine WP_drw ?_|refine cnd_intro (fun hsp=>?_) fun hsp=>?_)
    refine WP_count [(21,21),(192,208)] 0 (1+a5) (Nat.zero_le _) (fun _ i fr H=>fr 192=.int .i64 (i:Int)∧Ext J H∧∃ cv C,H[J.length]?=some (lacB (2+(a3:Int)) cv (.slice none 0 0))∧Own encI 3 (J.length+1) H cv C∧C.length=i∧∀ y ∈ C,0≤y∧y≤15) ?_ ?_ ?_
    ·exact ⟨by (simp (disch:=first|exact dq|fail) only [go_sem,↓reduceIte,Int.natCast_zero];first|done|rfl),xJ0,.slice none 0 0,[],gN0,Own.nil,rfl,fun y hy=>by cases hy⟩
    ·rintro i fr2 H hi0 hi hC ⟨e192,xH,cv,C,gN,oC,hCl,hCb⟩
     have e0:=hC 0 rfl
     have e19:=hC 19 rfl
     have e20:=hC 20 rfl
     have e182:=hC 182 rfl
     have e191:=hC 191 rfl
     try simp (disch:=first|exact dq|fail) only [go_sem,↓reduceIte,d182] at e0 e19 e20 e182 e191
     have hlti:((i:Int)<1+(a5:Int))=True:=eq_true (by omega)
     have hHl:=(xhJ.trans xH).len
     have lN:=lt_of_get gN
     have ocv:=oC.one
     obtain ⟨r,er,lr⟩:∃ a,a=(n+i * 3) % P∧a<P:=⟨_,rfl,Nat.mod_lt _ (by omega)⟩
     have mr:((n:Int)+(i:Int) * 3).tmod (P:Int)=(r:Int):=by rw [er];exact tmodI (by omega) rfl
     clear er
     obtain ⟨w',K3,ea,oW,lW,eW2,oneW,kW⟩:=oC.append1X (P:=prog) (y:=(r:Int)) (a:=.int .i64 (r:Int)) (base:=h.length) (t:=22) rfl rfl Fc.el22 encI_sc (by omega) (by omega) (by omega)
     have kW:KeepO encI 3 H K3:=kW
     have gK:=kW.box gN
     have nxt:∀ y ∈ C++[(r:Int)],0≤y∧y≤15:=fun y hy=>by
      rcases List.mem_append.1 hy with hy|hy
      ·exact hCb y hy
      ·rw [List.mem_singleton] at hy;omega
     have xW:=(eW2 J (by omega) xH).set (b:=lacB (2+(a3:Int)) w' (.slice none 0 0)) (Nat.le_refl J.length)
     have gW:(K3.set J.length (lacB (2+(a3:Int)) w' (.slice none 0 0)))[J.length]?=some (lacB (2+(a3:Int)) w' (.slice none 0 0)):=by rw [List.getElem?_set_self (by omega)]
     have oW':=oW.setBox (k:=lacB (2+(a3:Int)) w' (.slice none 0 0)) gK
     unfold lacB at gN gK
     unfold lacB at xW gW oW'
     have hsp:=@Nat.succ_ne_zero;repeat' (first|simp (disch:=first|exact dq|fail) only [go_sem,↓reduceIte,hsp,e0,e19,e20,e182,e191,e192,d182,hlti,gN,shP,tP,mr,ea,gK]|refine WP_drw ?_|refine cnd_intro (fun hsp=>?_) fun hsp=>?_)
     exact ⟨agq,by omega,xW,w',C++[(r:Int)],rfl,oW',by simp;omega,nxt⟩
    ·rintro fr2 H hC ⟨e192,xH,cv,C,gN,oC,hCl,hCb⟩
     have e0:=hC 0 rfl
     have e19:=hC 19 rfl
     have e20:=hC 20 rfl
     have e182:=hC 182 rfl
     have e191:=hC 191 rfl
     try simp (disch:=first|exact dq|fail) only [go_sem,↓reduceIte,d182] at e0 e19 e20 e182 e191
     rw [show ((1+a5:Nat):Int)=1+(a5:Int) by omega] at e192
     have hltu:(1+(a5:Int)<1+(a5:Int))=False:=eq_false (by omega)
     have hsp:=@Nat.succ_ne_zero;repeat' (first|simp (disch:=first|exact dq|fail) only [go_sem,↓reduceIte,hsp,e0,e19,e20,e182,e191,e192,d182,hltu,d2,m26]|refine WP_drw ?_|refine cnd_intro (fun hsp=>?_) fun hsp=>?_)
     refine WP_count [(22,23),(212,249)] 0 q6 (Nat.zero_le _) (fun _ i fr X=>fr 212=.int .i64 (i:Int)∧Ext J X∧∃ rv R,X[J.length]?=some (lacB (2+(a3:Int)) cv rv)∧Own encI 3 (J.length+1) X cv C∧Own encR 28 (J.length+1) X rv R∧R.length=i) ?_ ?_ ?_
     ·exact ⟨by (simp (disch:=first|exact dq|fail) only [go_sem,↓reduceIte,Int.natCast_zero];first|done|rfl),xH,.slice none 0 0,[],gN,oC,Own.nil,rfl⟩
     ·rintro i fr3 X hi0 hi hD ⟨k212,xX,rv,R,gNX,oCX,oR,hRl⟩
      have k0:=hD 0 rfl
      have k19:=hD 19 rfl
      have k20:=hD 20 rfl
      have k182:=hD 182 rfl
      have k211:=hD 211 rfl
      try simp (disch:=first|exact dq|fail) only [go_sem,↓reduceIte,e0,e19,e20,e182] at k0 k19 k20 k182 k211
      have hlti:((i:Int)<(q6:Int))=True:=eq_true (by omega)
      have hXl:=(xhJ.trans xX).len
      have lN:=lt_of_get gNX
      have ocv:=oCX.one
      have orv:=oR.one
      obtain ⟨mk,emk,lmk⟩:∃ a,a=(n+i) % P∧a<P:=⟨_,rfl,Nat.mod_lt _ (by omega)⟩
      have mmk:((n:Int)+(i:Int)).tmod (P:Int)=(mk:Int):=by rw [emk];exact tmodI (by omega) rfl
      obtain ⟨ni,eni,lni⟩:∃ a,a=n * i∧a≤80 * 6:=⟨_,rfl,Nat.mul_le_mul (by omega) (by omega)⟩
      obtain ⟨ii,eii,lii⟩:∃ a,a=i * i∧a≤6 * 6:=⟨_,rfl,Nat.mul_le_mul (by omega) (by omega)⟩
      have mni:(n:Int) * (i:Int)=(ni:Int):=by rw [eni,Int.natCast_mul]
      have mii:(i:Int) * (i:Int)=(ii:Int):=by rw [eii,Int.natCast_mul]
      obtain ⟨kk,ekk,lkk⟩:∃ a,a=(n+ii) % C.length∧a<C.length:=⟨_,rfl,Nat.mod_lt _ (by omega)⟩
      have mkk:((n:Int)+(ii:Int)).tmod (C.length:Int)=(kk:Int):=by rw [ekk];exact tmodI (by omega) rfl
      have tC:((C.length:Int)=0)=False:=eq_false (by omega)
      clear emk eni eii ekk
      have sC:Small C:=⟨by omega,fun y hy=>by have:=hCb y hy;omega⟩
      have iC:Ints X cv C:=own_ints oCX sC
      have lC:=lenI iC
      have aC:=adrI (i:=(kk:Int)) (by omega) iC (by omega)
      rw [Int.toNat_natCast] at aC
      have ldC:=loadI iC (i:=kk) lkk
      have hy:=hCb _ (getD_mem (l:=C) (i:=kk) lkk)
      obtain ⟨y,ey⟩:=Int.eq_ofNat_of_zero_le hy.1
      rw [ey] at ldC hy
      have an:=andN (t:=3) (a:=y) (b:=mk) (by omega) (by omega)
      obtain ⟨sh,esh,lsh⟩:∃ a,a=y &&& mk∧a≤mk:=⟨_,rfl,and_le⟩
      rw [← esh] at an
      clear esh
      obtain ⟨w',M,ea,oW',lW',eW,oneW,kW⟩:=snocR (base:=h.length) (r:=((ni:Int)+(i:Int),(mk:Int),(sh:Int))) (.inl oR) (by omega) (by omega) (by omega)
      have gM:=kW.box gNX
      have oCM:=kW.own oCX (by decide)
      have xM:=(eW J (by omega) xX).set (b:=lacB (2+(a3:Int)) cv w') (Nat.le_refl J.length)
      have gM':(M.set J.length (lacB (2+(a3:Int)) cv w'))[J.length]?=some (lacB (2+(a3:Int)) cv w'):=by rw [List.getElem?_set_self (by omega)]
      have oC':=oCM.setBox (k:=lacB (2+(a3:Int)) cv w') gM
      have oR':=oW'.setBox (k:=lacB (2+(a3:Int)) cv w') gM
      have bsw:∀ {lit:Bool},bsA prog lit X 23 1 [(0,.agg [.int .i64 ((ni:Int)+(i:Int)),.int .i64 (mk:Int),.int .i64 (sh:Int)])]=some (.slice (some ⟨X.length,0,0⟩) 1 1,X++[rowE encR 28 [((ni:Int)+(i:Int),(mk:Int),(sh:Int))] 0]):=fun {lit}=>bsR1 (r:=((ni:Int)+(i:Int),(mk:Int),(sh:Int)))
      have g1:∀ {a:ABlk},(X++[a])[J.length]?=_:=fun {a}=>get_app gNX
      unfold lacB at gNX gM g1 xM gM' oC' oR'
      have hsp:=@Nat.succ_ne_zero;repeat' (first|simp (disch:=first|exact dq|fail) only [go_sem,↓reduceIte,hsp,k0,k19,k20,k182,k211,k212,e0,e19,e20,e182,e191,e192,d182,hlti,gNX,shP,tP,mmk]|refine WP_drw ?_|refine cnd_intro (fun hsp=>?_) fun hsp=>?_)
      refine WPS_go ?_
      refine WP_draw (by kernel_rfl) ?_ (by kernel_rfl)
      have hsp:=@Nat.succ_ne_zero;repeat' (first|simp (disch:=first|exact dq|fail) only [go_sem,↓reduceIte,hsp,k0,k19,k20,k182,k211,k212,e0,e19,e20,e182,e191,e192,d182,gNX,mni,mii,lC,tC,mkk,aC,ldC,an,bsw,ea,g1,gM]|refine WP_drw ?_|refine cnd_intro (fun hsp=>?_) fun hsp=>?_)
      exact ⟨agq,by omega,xM,w',_,rfl,oC',oR',by simp;omega⟩
     ·rintro fr3 Z hD ⟨k212,xZ,rv,R,gNZ,oCZ,oR,hRl⟩
      have k0:=hD 0 rfl
      have k19:=hD 19 rfl
      have k20:=hD 20 rfl
      have k182:=hD 182 rfl
      have k211:=hD 211 rfl
      try simp (disch:=first|exact dq|fail) only [go_sem,↓reduceIte,e0,e19,e20,e182] at k0 k19 k20 k182 k211
      have hlti:((q6:Int)<(q6:Int))=False:=eq_false (by omega)
      have hZl:=(xhJ.trans xZ).len
      have lN:=lt_of_get gNZ
      have ocv:=oCZ.one
      have orv:=oR.one
      have sC:Small C:=⟨by omega,fun y hy=>by have:=hCb y hy;omega⟩
      have aL:LacAt Z (.agg [.int .i64 (2+(a3:Int)),cv,rv]) ⟨2+(a3:Int),C,R⟩:=⟨cv,rv,rfl,own_ints oCZ sC,oR.rows (by omega)⟩
      obtain ⟨L,eL⟩:∃ L:Lac,L=⟨2+(a3:Int),C,R⟩:=⟨_,rfl⟩
      have hLC:L.C.length≤1048576:=by rw [eL];show C.length≤_;omega
      have hLR:L.R.length≤1048576:=by rw [eL];show R.length≤_;omega
      rw [← eL] at aL
      clear eL
      obtain ⟨_,Z1,e1,x1,ov,rfl,oO⟩:=run_First (base:=h.length) (h:=Z) (by omega) aL
      have lZ1:=x1.len
      have oov:=oO.one
      obtain ⟨hol,sO⟩:=frs_small (L:=L)
      obtain ⟨o,eo⟩:∃ o,o=(frsE L).1:=⟨_,rfl⟩
      obtain ⟨oe,eoe⟩:∃ oe,oe=(frsE L).2:=⟨_,rfl⟩
      rw [← eo] at oO hol sO
      rw [← eoe] at e1
      clear eo eoe
      have gNZ':=gNZ
      unfold lacB at gNZ'
      have hsp:=@Nat.succ_ne_zero;repeat' (first|simp (disch:=first|exact dq|fail) only [go_sem,↓reduceIte,hsp,k0,k19,k20,k182,k211,k212,e0,e19,e20,e182,e191,e192,d182,hlti,gNZ',e1]|refine WP_drw ?_|refine cnd_intro (fun hsp=>?_) fun hsp=>?_)
      refine WPS_restF fun Y eY=>?_
      rw [← WP_seq]
      have kY19:=congrFun eY 19
      have kY20:=congrFun eY 20
      have kY24:=congrFun eY 24
      have kY182:=congrFun eY 182
      try simp (disch:=first|exact dq|fail) only [go_sem,↓reduceIte,k19,k19,k20,k20,k182,k182] at kY19 kY20 kY24 kY182
      have aY:Agree [(0,312)] Y fr1:=by rw [eY];exact agq
      clear eY
      have lo:=lenI (ownE_ints oO sO)
      refine WP_meet (fun fr h'=>Agree [(255,272)] fr Y∧IntsN 1048576 h' ov∧Ext Z h') ?_ ?_
      ·rw [WP_seq,WP_region]
       by_cases c1:1<o.length
       ·have t1:((o.length:Int) > 1)=True:=eq_true (by omega)
        by_cases c4:a4=0
        ·have t4:((a4:Int)=0)=True:=eq_true (by omega)
         obtain ⟨id,ver,X2,X3,epv,f0,f1,st1,st2,l3,ex,N3⟩:=oO.swp (base:=h.length) c1 (by omega) sO
         have ad0:indexAddrA prog 22 ov (.int .i64 0)=some (.ptr (some ⟨id,ver,0⟩)):=by
          rw [epv,adr_sl Fc.el22 Fc.ar22 (by omega) (by omega)];rfl
         have ad1:indexAddrA prog 22 ov (.int .i64 1)=some (.ptr (some ⟨id,ver,1⟩)):=by
          rw [epv,adr_sl Fc.el22 Fc.ar22 (by omega) (by omega)];rfl
         have eX3:=ex Z (Nat.le_refl _) x1
         clear epv
         have hsp:=@Nat.succ_ne_zero;repeat' (first|simp (disch:=first|exact dq|fail) only [go_sem,↓reduceIte,hsp,kY19,kY20,kY24,kY182,lo,t1,m4,t4,ad0,ad1,f0,f1,st1,st2]|refine WP_drw ?_|refine cnd_intro (fun hsp=>?_) fun hsp=>?_)
         exact ⟨agq,N3,eX3⟩
        ·have t4:((a4:Int)=0)=False:=eq_false (by omega)
         have hsp:=@Nat.succ_ne_zero;repeat' (first|simp (disch:=first|exact dq|fail) only [go_sem,↓reduceIte,hsp,kY19,kY20,kY24,kY182,lo,t1,m4,t4]|refine WP_drw ?_|refine cnd_intro (fun hsp=>?_) fun hsp=>?_)
         exact ⟨agq,⟨o,ownE_ints oO sO,by omega⟩,x1⟩
       ·have t1:((o.length:Int) > 1)=False:=eq_false (by omega)
        have hsp:=@Nat.succ_ne_zero;repeat' (first|simp (disch:=first|exact dq|fail) only [go_sem,↓reduceIte,hsp,kY19,kY20,kY24,kY182,lo,t1]|refine WP_drw ?_|refine cnd_intro (fun hsp=>?_) fun hsp=>?_)
        exact ⟨agq,⟨o,ownE_ints oO sO,by omega⟩,x1⟩
      ·rintro fr4 X ⟨hA4,NO,xX⟩
       have y19:=hA4 19 rfl
       have y20:=hA4 20 rfl
       have y24:=hA4 24 rfl
       have y182:=hA4 182 rfl
       try simp (disch:=first|exact dq|fail) only [go_sem,↓reduceIte,kY19,kY20,kY24,kY182] at y19 y20 y24 y182
       have lX:=xX.len
       have gX:=xX.get gNZ
       unfold lacB at gX
       obtain ⟨_,X1,e2,x2,gv,gl,rfl,oG,g1,g2⟩:=run_Gap (base:=h.length) (h:=X) (by omega) (aL.ext xX)
       have lX1:=x2.len
       have ogv:=oG.one
       obtain ⟨hgl,sG⟩:=gap_small g1 g2
       have hsp:=@Nat.succ_ne_zero;repeat' (first|simp (disch:=first|exact dq|fail) only [go_sem,↓reduceIte,hsp,y19,y20,y24,y182,gX,e2]|refine WP_drw ?_|refine cnd_intro (fun hsp=>?_) fun hsp=>?_)
       refine WPS_restF fun U eU=>?_
       rw [← WP_seq]
       have kU19:=congrFun eU 19
       have kU20:=congrFun eU 20
       have kU24:=congrFun eU 24
       have kU26:=congrFun eU 26
       have kU27:=congrFun eU 27
       have kU182:=congrFun eU 182
       try simp (disch:=first|exact dq|fail) only [go_sem,↓reduceIte,y19,y20,y24,y182] at kU19 kU20 kU24 kU26 kU27 kU182
       have aU:Agree [(26,27),(255,277)] U Y:=by rw [eU];exact agq
       clear eU
       refine WP_meet (fun fr h'=>Agree [(26,26),(278,282)] fr U∧∃ gv',fr 26=gv'∧One gv'∧IntsN 1048576 h' gv'∧Ext X h') ?_ ?_
       ·rw [WP_seq,WP_region]
        by_cases c0:gapE L=0
        ·have t0:(gapE L=0)=True:=eq_true c0
         have hsp:=@Nat.succ_ne_zero;repeat' (first|simp (disch:=first|exact dq|fail) only [go_sem,↓reduceIte,hsp,kU19,kU20,kU24,kU26,kU27,kU182,t0,ne_eq,not_true,decide_false]|refine WP_drw ?_|refine cnd_intro (fun hsp=>?_) fun hsp=>?_)
         exact ⟨agq,gv,by simp (disch:=first|exact dq|fail) only [go_sem,↓reduceIte,kU19,kU20,kU24,kU26,kU27,kU182],ogv,⟨gl,own_ints oG sG,by omega⟩,x2⟩
        ·have t0:(gapE L=0)=False:=eq_false c0
         obtain ⟨X2,eX2⟩:∃ X2,X2=X1++[rowB [0,(a3:Int)] 0]:=⟨_,rfl⟩
         have gX2:X2[X1.length]?=some (rowB [0,(a3:Int)] 0):=by rw [eX2];exact get_eq rfl
         have x3:Ext X1 X2:=by rw [eX2];exact .app .refl
         have N2:IntsN 1048576 X2 (.slice (some ⟨X1.length,0,0⟩) 2 2):=⟨_,ints_rowB gX2 (sm_of (by simp) fun x hx=>by simp at hx;unfold rng63;omega) rfl,by simp⟩
         have hsp:=@Nat.succ_ne_zero;repeat' (first|simp (disch:=first|exact dq|fail) only [go_sem,↓reduceIte,hsp,kU19,kU20,kU24,kU26,kU27,kU182,t0,ne_eq,not_false,decide_true,m3,bsI2,← eX2]|refine WP_drw ?_|refine cnd_intro (fun hsp=>?_) fun hsp=>?_)
         exact ⟨agq,_,by simp (disch:=first|exact dq|fail) only [go_sem,↓reduceIte],⟨rfl,rfl,rfl⟩,N2,x2.trans x3⟩
       ·rintro fr5 X5 ⟨hA5,gv',v26,ogv',NG,xX5⟩
        have v19:=hA5 19 rfl
        have v20:=hA5 20 rfl
        have v24:=hA5 24 rfl
        have v182:=hA5 182 rfl
        try simp (disch:=first|exact dq|fail) only [go_sem,↓reduceIte,kU19,kU20,kU24,kU182] at v19 v20 v24 v182
        have xZ5:=xX.trans xX5
        have lX5:=xZ5.len
        have gX5:=xZ5.get gNZ
        unfold lacB at gX5
        obtain ⟨_,X6,e3,x6,rg,rl,rfl,oR6,r1,r2⟩:=run_Ring (base:=h.length) (h:=X5) (by omega) (aL.ext xZ5)
        have lX6:=x6.len
        have org:=oR6.one
        obtain ⟨hrl,sR⟩:=ring_small r1 r2
        obtain ⟨re,ere⟩:∃ re,re=rngE L:=⟨_,rfl⟩
        rw [← ere] at e3
        clear ere r1 r2
        have hsp:=@Nat.succ_ne_zero;repeat' (first|simp (disch:=first|exact dq|fail) only [go_sem,↓reduceIte,hsp,v19,v20,v24,v182,v26,gX5,e3]|refine WP_drw ?_|refine cnd_intro (fun hsp=>?_) fun hsp=>?_)
        refine WPS_restF fun W eW=>?_
        rw [← WP_seq]
        have kW19:=congrFun eW 19
        have kW20:=congrFun eW 20
        have kW24:=congrFun eW 24
        have kW26:=congrFun eW 26
        have kW28:=congrFun eW 28
        have kW182:=congrFun eW 182
        try simp (disch:=first|exact dq|fail) only [go_sem,↓reduceIte,v19,v20,v24,v26,v182] at kW19 kW20 kW24 kW26 kW28 kW182
        have aW:Agree [(26,26),(28,29),(278,287)] W U:=by rw [eW];exact agq
        clear eW
        refine WP_meet (fun fr h'=>Agree [(28,28),(288,295)] fr W∧∃ rg',fr 28=rg'∧One rg'∧IntsN 1048576 h' rg'∧Ext X5 h') ?_ ?_
        ·rw [WP_seq,WP_region]
         by_cases c5:a5=0
         ·have t5:((a5:Int)=0)=True:=eq_true (by omega)
          obtain ⟨rg',X7,ea,oW,lW,eW2,oneW,kW⟩:=oR6.append1X (P:=prog) (y:=(a4:Int)) (a:=.int .i64 (a4:Int)) (base:=h.length) (t:=22) rfl rfl Fc.el22 encI_sc (by omega) (by omega) (by omega)
          have x7:=eW2 X5 (Nat.le_refl _) x6
          have N7:IntsN 1048576 X7 rg':=⟨_,own_ints oW (ints_snoc sR hrl ⟨by omega,by omega⟩),by simp;omega⟩
          have hsp:=@Nat.succ_ne_zero;repeat' (first|simp (disch:=first|exact dq|fail) only [go_sem,↓reduceIte,hsp,kW19,kW20,kW24,kW26,kW28,kW182,m5,t5,m4,ea]|refine WP_drw ?_|refine cnd_intro (fun hsp=>?_) fun hsp=>?_)
          exact ⟨agq,rg',by simp (disch:=first|exact dq|fail) only [go_sem,↓reduceIte],oneW,N7,x7⟩
         ·have t5:((a5:Int)=0)=False:=eq_false (by omega)
          have hsp:=@Nat.succ_ne_zero;repeat' (first|simp (disch:=first|exact dq|fail) only [go_sem,↓reduceIte,hsp,kW19,kW20,kW24,kW26,kW28,kW182,m5,t5]|refine WP_drw ?_|refine cnd_intro (fun hsp=>?_) fun hsp=>?_)
          exact ⟨agq,rg,by simp (disch:=first|exact dq|fail) only [go_sem,↓reduceIte,kW19,kW20,kW24,kW26,kW28,kW182],org,⟨rl,own_ints oR6 sR,by omega⟩,x6⟩
        ·rintro fr6 X8 ⟨hA6,rg',j28,org',NR,xX8⟩
         have j19:=hA6 19 rfl
         have j20:=hA6 20 rfl
         have j24:=hA6 24 rfl
         have j26:=hA6 26 rfl
         have j182:=hA6 182 rfl
         try simp (disch:=first|exact dq|fail) only [go_sem,↓reduceIte,kW19,kW20,kW24,kW26,kW182] at j19 j20 j24 j26 j182
         have xZ8:=xZ5.trans xX8
         have gX8:=xZ8.get gNZ
         unfold lacB at gX8
         have LN:LacN 1048576 X8 (.agg [.int .i64 (2+(a3:Int)),cv,rv]):=⟨L,aL.ext xZ8,hLC,hLR⟩
         have ask:=fun base=>run_asked (base:=base) (p:=(a6:Int)) (n:=(b20:Int)) (r:=((n:Int),(a5:Int),(a3:Int))) LN (NO.ext (xX5.trans xX8)) (NG.ext xX8) NR
         have fin:Ext h X8:=(xhJ.trans xZ).trans xZ8
         have hsp:=@Nat.succ_ne_zero;repeat' (first|simp (disch:=first|exact dq|fail) only [go_sem,↓reduceIte,hsp,j19,j20,j24,j26,j182,j28,gX8,m6,m20,m5,m3,ask]|refine WP_drw ?_|refine cnd_intro (fun hsp=>?_) fun hsp=>?_)
         exact ⟨agq,by omega,fin⟩
   ·rintro fr1 J hB ⟨d182,xhJ⟩
    have hlt:(((80:Nat):Int)<80)=False:=eq_false (by omega)
    have hlt':((80:Int)<80)=False:=eq_false (by omega)
    have hsp:=@Nat.succ_ne_zero;repeat' (first|simp (disch:=first|exact dq|fail) only [go_sem,↓reduceIte,hsp,d182,hlt,hlt']|refine WP_drw ?_|refine cnd_intro (fun hsp=>?_) fun hsp=>?_)
    refine WP_count [(0,405)] 0 14 (Nat.zero_le _) (fun _ n fr J=>fr 313=.int .i64 (n:Int)∧Ext h J) ?_ ?_ ?_
    ·exact ⟨by (simp (disch:=first|exact dq|fail) only [go_sem,↓reduceIte,Int.natCast_zero];first|done|rfl),xhJ⟩
    ·rintro n fr1 J hn0 hn hB ⟨d313,xhJ⟩
     have hlt:((n:Int)<14)=True:=eq_true (by omega)
     have hhJ:=xhJ.len
     obtain ⟨w,H1,e1,x1,C,R,rfl,gC,gR,hR,hRC⟩:=run_FourX (base:=h.length) (h:=J) (r:=1) hhJ (by omega)
     have e1:callL prog raw h.length (.fn 4 [] []) [.int .i64 1] J=some (_,H1):=e1
     have lC:=lt_of_get gC
     have lH1:=x1.len
     obtain ⟨G0,eG0⟩:∃ G0,G0=H1++[lacB 4 (.slice none 0 0) (.slice none 0 0)]++[lacB 3 (.slice (some ⟨C,0,0⟩) 4 4) (.slice (some ⟨R,0,0⟩) 1 4)]:=⟨_,rfl⟩
     have xG0:Ext H1 G0:=by rw [eG0];exact .app (.app .refl)
     have lG0:G0.length=H1.length+2:=by rw [eG0];simp
     have gA0:G0[H1.length]?=some (lacB 4 (.slice none 0 0) (.slice none 0 0)):=by rw [eG0];exact get_app (get_eq rfl)
     have gB0:G0[H1.length+1]?=some (lacB 3 (.slice (some ⟨C,0,0⟩) 4 4) (.slice (some ⟨R,0,0⟩) 1 4)):=by rw [eG0];exact get_eq (by simp)
     have rc0:RowC J.length G0 (.slice (some ⟨R,0,0⟩) 1 4) (rwsN 0):=⟨R,0,[(5,6,0),(2,4,4),(3,4,4)],rfl,xG0.get gR,hR,by simp [rwsN]⟩
     have gC0:=xG0.get gC
     unfold lacB at eG0
     have hsp:=@Nat.succ_ne_zero;repeat' (first|simp (disch:=first|exact dq|fail) only [go_sem,↓reduceIte,hsp,d313,hlt,e1,← eG0]|refine WP_drw ?_|refine cnd_intro (fun hsp=>?_) fun hsp=>?_)
     refine WP_count [(33,33),(319,336)] 0 n (Nat.zero_le _) (fun _ i fr X=>fr 319=.int .i64 (i:Int)∧∃ cv rv,X[H1.length]?=some (lacB 4 cv (.slice none 0 0))∧X[H1.length+1]?=some (lacB 3 (.slice (some ⟨C,0,0⟩) 4 4) rv)∧Own encI 3 (H1.length+2) X cv (upto i)∧RowC J.length X rv (rwsN i)∧X[C]?=some (rowB [1,2,3,4] 0)∧Ext J X) ?_ ?_ ?_
     ·exact ⟨by (simp (disch:=first|exact dq|fail) only [go_sem,↓reduceIte,Int.natCast_zero];first|done|rfl),.slice none 0 0,.slice (some ⟨R,0,0⟩) 1 4,gA0,gB0,Own.nil,rc0,gC0,x1.trans xG0⟩
     ·rintro i fr2 X hi0 hi hC ⟨e319,cv,rv,gA,gB,oC,rC,gCX,xX⟩
      have e0:=hC 0 rfl
      have e30:=hC 30 rfl
      have e31:=hC 31 rfl
      have e32:=hC 32 rfl
      have e313:=hC 313 rfl
      have e318:=hC 318 rfl
      try simp (disch:=first|exact dq|fail) only [go_sem,↓reduceIte,d313] at e0 e30 e31 e32 e313 e318
      have hlti:((i:Int)<(n:Int))=True:=eq_true (by omega)
      have hXl:=(xhJ.trans xX).len
      have lA:=lt_of_get gA
      have lB:=lt_of_get gB
      have ocv:=oC.one
      have orv:=rC.one
      have lU:=upto_len (n:=i)
      have lRw:=rwsN_len (n:=i)
      obtain ⟨v',Z1,ea1,oC1,l1,e1x,one1,k1⟩:=oC.append1X (P:=prog) (y:=(i:Int)) (a:=.int .i64 (i:Int)) (base:=h.length) (t:=22) rfl rfl Fc.el22 encI_sc (by omega) (by omega) (by omega)
      have k1:KeepO encI 3 X Z1:=k1
      rw [← upto_succ] at oC1
      have gA1:=k1.box gA
      have gB1:=k1.box gB
      have rC1:=rC.keep k1
      have gC1:Z1[C]?=some (rowB [1,2,3,4] 0):=by
       have:=e1x (X.take (H1.length+2)) (by rw [List.length_take];omega) (⟨X.drop (H1.length+2),(List.take_append_drop _ _).symm⟩)
       refine this.get ?_
       rw [List.getElem?_take,if_pos (by omega)];exact gCX
      have x1Z:=e1x J (by omega) xX
      obtain ⟨Z2,eZ2⟩:∃ Z2,Z2=Z1.set H1.length (lacB 4 v' (.slice none 0 0)):=⟨_,rfl⟩
      have lZ2:Z2.length=Z1.length:=by rw [eZ2,List.length_set]
      have gA2:Z2[H1.length]?=some (lacB 4 v' (.slice none 0 0)):=by rw [eZ2,List.getElem?_set_self (by omega)]
      have gB2:Z2[H1.length+1]?=some (lacB 3 (.slice (some ⟨C,0,0⟩) 4 4) rv):=by rw [eZ2,List.getElem?_set_ne (by omega)];exact gB1
      have gC2:Z2[C]?=some (rowB [1,2,3,4] 0):=by rw [eZ2,List.getElem?_set_ne (by omega)];exact gC1
      have oC2:Own encI 3 (H1.length+2) Z2 v' (upto (i+1)):=by rw [eZ2];exact oC1.setBox gA1
      have rC2:RowC J.length Z2 rv (rwsN i):=by rw [eZ2];exact rC1.setBox gA1
      have x2Z:Ext J Z2:=by rw [eZ2];exact x1Z.set (by omega)
      obtain ⟨w',Z3,ea2,rC3,l3,e3x,k3⟩:=rC2.snoc (base:=h.length) (r:=(4 * (i:Int),2,0)) (by omega) (by omega)
      rw [← rwsN_succ] at rC3
      have ow':=rC3.one
      have gA3:=k3.box gA2
      have gB3:=k3.box gB2
      have gC3:Z3[C]?=some (rowB [1,2,3,4] 0):=k3 C _ gC2 fun l' ver' q=>by simp [rowE,rowB] at q
      have oC3:=k3.own oC2 (by decide)
      have x3Z:=e3x J (Nat.le_refl _) x2Z
      have bsw:∀ {lit:Bool},bsA prog lit Z2 23 1 [(0,.agg [.int .i64 (4 * (i:Int)),.int .i64 2,.int .i64 0])]=some (.slice (some ⟨Z2.length,0,0⟩) 1 1,Z2++[rowE encR 28 [(4 * (i:Int),2,0)] 0]):=fun {lit}=>bsR1 (r:=(4 * (i:Int),2,0))
      have gB3':=gB3
      have oC4:=oC3.setBox (k:=lacB 3 (.slice (some ⟨C,0,0⟩) 4 4) w') gB3
      have rC4:=rC3.setBox (k:=lacB 3 (.slice (some ⟨C,0,0⟩) 4 4) w') gB3
      have gC4:(Z3.set (H1.length+1) (lacB 3 (.slice (some ⟨C,0,0⟩) 4 4) w'))[C]?=some (rowB [1,2,3,4] 0):=by rw [List.getElem?_set_ne (by omega)];exact gC3
      have gA4:(Z3.set (H1.length+1) (lacB 3 (.slice (some ⟨C,0,0⟩) 4 4) w'))[H1.length]?=some (lacB 4 v' (.slice none 0 0)):=by rw [List.getElem?_set_ne (by omega)];exact gA3
      have x4Z:=x3Z.set (i:=H1.length+1) (b:=lacB 3 (.slice (some ⟨C,0,0⟩) 4 4) w') (by omega)
      have g1:∀ {a:ABlk},(Z2++[a])[H1.length+1]?=_:=fun {a}=>get_app gB2
      unfold lacB at gA gA1 eZ2 gB2 gB3' g1 oC4 rC4 gC4 gA4 x4Z
      have hsp:=@Nat.succ_ne_zero;repeat' (first|simp (disch:=first|exact dq|fail) only [go_sem,↓reduceIte,hsp,e0,e30,e31,e32,e313,e318,e319,d313,hlti,gA,ea1,gA1,← eZ2,gB2,bsw,ea2,g1,gB3']|refine WP_drw ?_|refine cnd_intro (fun hsp=>?_) fun hsp=>?_)
      exact ⟨agq,by omega,v',w',gA3,rfl,oC4,rC4,gC3,x4Z⟩
     ·rintro fr2 Z hC ⟨e319,cv,rv,gA,gB,oC,rC,gCZ,xZ⟩
      have e0:=hC 0 rfl
      have e30:=hC 30 rfl
      have e31:=hC 31 rfl
      have e32:=hC 32 rfl
      have e313:=hC 313 rfl
      have e318:=hC 318 rfl
      try simp (disch:=first|exact dq|fail) only [go_sem,↓reduceIte,d313] at e0 e30 e31 e32 e313 e318
      have hlti:((n:Int)<(n:Int))=False:=eq_false (by omega)
      have hZl:=(xhJ.trans xZ).len
      have ocv:=oC.one
      have orv:=rC.one
      have lU:=upto_len (n:=n)
      have lRw:=rwsN_len (n:=n)
      have sU:Small (upto n):=⟨by omega,fun y hy=>by have:=upto_mem.1 hy;omega⟩
      have iC:=own_ints oC sU
      have i4:Ints Z (.slice (some ⟨C,0,0⟩) 4 4) [1,2,3,4]:=ints_rowB (l:=[1,2,3,4]) gCZ (sm_of (by simp) fun x hx=>by simp at hx;unfold rng63;omega) rfl
      have rR:=rC.rows (by omega)
      have aL1:LacAt Z (.agg [.int .i64 4,cv,.slice none 0 0]) ⟨4,upto n,[]⟩:=⟨cv,_,rfl,iC,Rows.nil⟩
      have aL2:LacAt Z (.agg [.int .i64 3,.slice (some ⟨C,0,0⟩) 4 4,rv]) ⟨3,[1,2,3,4],rwsN n⟩:=⟨_,rv,rfl,i4,rR⟩
      have N1:LacN 1048576 Z (.agg [.int .i64 4,cv,.slice none 0 0]):=⟨_,aL1,by show (upto n).length≤_;omega,by simp⟩
      have N2:LacN 1048576 Z (.agg [.int .i64 3,.slice (some ⟨C,0,0⟩) 4 4,rv]):=⟨_,aL2,by simp,by show (rwsN n).length≤_;omega⟩
      have NN:IntsN 1048576 Z (.slice none 0 0):=⟨[],ints_nil,by simp⟩
      have hck1:=fun base=>run_LaceChecks (base:=base) N1 (v1:=.int .i64 ((n:Int)-1)) ⟨_,rfl⟩ NN (v3:=.int .i64 0) ⟨_,rfl⟩ (v4:=.agg [.int .i64 0,.int .i64 0,.int .i64 0]) ⟨(0,0,0),rfl⟩
      have fnd1:=fun base=>run_LaceFinds (base:=base) N1 NN
      obtain ⟨m,em,hm⟩:∃ m:Nat,min (n:Int) 12=(m:Int)∧m≤n:=⟨min n 12,by omega,by omega⟩
      have mn12:=em
      have slc:sliceA prog 22 cv none (some (.int .i64 (m:Int))) none=some (slcV cv 0 m):=by
       have:=sl_hi (P:=prog) (n:=(m:Int)) Fc.el22 Fc.ar22 (by omega) iC (by omega)
       rwa [Int.toNat_natCast] at this
      have iS:=Ints.slc iC (Nat.zero_le m) (show m≤(upto n).length by omega)
      have oS:One (slcV cv 0 m):=slcV_one iC
      have NS:IntsN 1048576 Z (slcV cv 0 m):=⟨_,iS,by simp;omega⟩
      generalize slcV cv 0 m=sv at slc oS NS
      clear iS
      have men1:=fun base=>run_LaceMends (base:=base) NS (v1:=.slice none 0 0) ⟨[],⟨[],Rows.nil,rfl,fun i x t q=>by simp at q⟩,by simp,by simp⟩ (v2:=.slice none 0 0) ⟨[],Rows.nil,by simp⟩
      have hck2:=fun base=>run_LaceChecks (base:=base) N2 (v1:=.int .i64 0) ⟨_,rfl⟩ NN (v3:=.int .i64 0) ⟨_,rfl⟩ (v4:=.agg [.int .i64 0,.int .i64 1,.int .i64 1]) ⟨(0,1,1),rfl⟩
      obtain ⟨X1,eX1⟩:∃ X1,X1=Z++[rowB [0,1,2,3] 0]:=⟨_,rfl⟩
      have z1:Ext Z X1:=by rw [eX1];exact .app .refl
      have gX1:X1[Z.length]?=some (rowB [0,1,2,3] 0):=by rw [eX1];exact get_eq rfl
      have NO:IntsN 1048576 X1 (.slice (some ⟨Z.length,0,0⟩) 4 4):=⟨_,ints_rowB gX1 (sm_of (by simp) fun x hx=>by simp at hx;unfold rng63;omega) rfl,by simp⟩
      have fnd2:=fun base=>run_LaceFinds (base:=base) (N2.ext z1) NO
      obtain ⟨i1,i2,i3⟩:=sml_chk (show n<14 by omega)
      rw [decide_eq_decide] at i1 i2 i3
      obtain ⟨X2,eX2⟩:∃ X2,X2=X1++[rowB [0] 0]:=⟨_,rfl⟩
      have z2:Ext X1 X2:=by rw [eX2];exact .app .refl
      have gX2:X2[X1.length]?=some (rowB [0] 0):=by rw [eX2];exact get_eq rfl
      have aL3:LacAt X2 (.agg [.int .i64 (n:Int),.slice (some ⟨X1.length,0,0⟩) 1 1,.slice none 0 0]) ⟨(n:Int),[0],[]⟩:=⟨_,_,rfl,ints_rowB (l:=[0]) gX2 (sm_of (by simp) fun x hx=>by simp at hx;unfold rng63;omega) rfl,Rows.nil⟩
      have cC1:=fun base=>run_Check (base:=base) (aL1.ext z1)
      have cC2:=fun base=>run_Check (base:=base) (aL2.ext z1)
      have cC3:=fun base=>run_Check (base:=base) aL3
      obtain ⟨k1,ek1⟩:∃ k,k=chkL ⟨4,upto n,[]⟩:=⟨_,rfl⟩
      obtain ⟨k2,ek2⟩:∃ k,k=chkL ⟨3,[1,2,3,4],rwsN n⟩:=⟨_,rfl⟩
      obtain ⟨k3,ek3⟩:∃ k,k=chkL ⟨(n:Int),[0],[]⟩:=⟨_,rfl⟩
      rw [← ek1] at i1 cC1
      rw [← ek2] at i2 cC2
      rw [← ek3] at i3 cC3
      clear ek1 ek2 ek3
      have ic1:=i1
      have ic2:=i2
      have ic3:=i3
      have fin:Ext h X2:=(xhJ.trans xZ).trans (z1.trans z2)
      have gA':=gA
      have gB':=gB
      have gA1:=z1.get gA
      have gB1:=z1.get gB
      unfold lacB at gA' gB' gA1 gB1
      clear i1 i2 i3
      rcases (by omega:n=0 ∨ 0<n∧n<7 ∨ n=7 ∨ n=8 ∨ 9≤n∧n<12 ∨ 12≤n) with cs|cs|cs|cs|cs|cs
      ·have tg0:((n:Int) > 0)=False:=eq_false (by omega)
       have tl7:((n:Int)<7)=True:=eq_true (by omega)
       have tl12:((n:Int)<12)=True:=eq_true (by omega)
       have tc1:(k1=0)=False:=eq_false fun q=>absurd (ic1.1 q) (by omega)
       have tc2:(k2=0)=True:=eq_true (ic2.2 (by omega))
       have tc3:(k3=0)=False:=eq_false fun q=>absurd (ic3.1 q) (by omega)
       have hsp:=@Nat.succ_ne_zero;repeat' (first|simp (disch:=first|exact dq|fail) only [go_sem,↓reduceIte,hsp,e0,e30,e31,e32,e313,e318,e319,d313,hlti,gA',gB',gA1,gB1,hck1,fnd1,tg0,tl7,tl12,tc1,tc2,tc3,mn12,slc,men1,hck2,bs4,← eX1,fnd2,cC1,cC2,bsrI,← eX2,cC3,eq_self,ne_eq,not_true,decide_false,decide_true,neB,bne_self_eq_false]|refine WP_drw ?_|refine cnd_intro (fun hsp=>?_) fun hsp=>?_)
       exact ⟨agq,by omega,fin⟩
      ·have tg0:((n:Int) > 0)=True:=eq_true (by omega)
       have tl7:((n:Int)<7)=True:=eq_true (by omega)
       have tl8:((n:Int)<8)=True:=eq_true (by omega)
       have tl12:((n:Int)<12)=True:=eq_true (by omega)
       have tl9:((n:Int)<9)=True:=eq_true (by omega)
       have tc1:(k1=0)=True:=eq_true (ic1.2 (by omega))
       have tc2:(k2=0)=True:=eq_true (ic2.2 (by omega))
       have tc3:(k3=0)=True:=eq_true (ic3.2 (by omega))
       have hsp:=@Nat.succ_ne_zero;repeat' (first|simp (disch:=first|exact dq|fail) only [go_sem,↓reduceIte,hsp,e0,e30,e31,e32,e313,e318,e319,d313,hlti,gA',gB',gA1,gB1,hck1,fnd1,tg0,tl7,tl8,tl12,tl9,tc1,tc2,tc3,mn12,slc,men1,hck2,bs4,← eX1,fnd2,cC1,cC2,bsrI,← eX2,cC3,eq_self,ne_eq,not_true,decide_false,decide_true,neB,bne_self_eq_false]|refine WP_drw ?_|refine cnd_intro (fun hsp=>?_) fun hsp=>?_)
       exact ⟨agq,by omega,fin⟩
      ·have tg0:((n:Int) > 0)=True:=eq_true (by omega)
       have tl7:((n:Int)<7)=False:=eq_false (by omega)
       have tl8:((n:Int)<8)=True:=eq_true (by omega)
       have tl12:((n:Int)<12)=True:=eq_true (by omega)
       have tl9:((n:Int)<9)=True:=eq_true (by omega)
       have tc1:(k1=0)=True:=eq_true (ic1.2 (by omega))
       have tc2:(k2=0)=True:=eq_true (ic2.2 (by omega))
       have tc3:(k3=0)=True:=eq_true (ic3.2 (by omega))
       have hsp:=@Nat.succ_ne_zero;repeat' (first|simp (disch:=first|exact dq|fail) only [go_sem,↓reduceIte,hsp,e0,e30,e31,e32,e313,e318,e319,d313,hlti,gA',gB',gA1,gB1,hck1,fnd1,tg0,tl7,tl8,tl12,tl9,tc1,tc2,tc3,mn12,slc,men1,hck2,bs4,← eX1,fnd2,cC1,cC2,bsrI,← eX2,cC3,eq_self,ne_eq,not_true,decide_false,decide_true,neB,bne_self_eq_false]|refine WP_drw ?_|refine cnd_intro (fun hsp=>?_) fun hsp=>?_)
       exact ⟨agq,by omega,fin⟩
      ·have tg0:((n:Int) > 0)=True:=eq_true (by omega)
       have tl7:((n:Int)<7)=False:=eq_false (by omega)
       have tl8:((n:Int)<8)=False:=eq_false (by omega)
       have tl12:((n:Int)<12)=True:=eq_true (by omega)
       have tl9:((n:Int)<9)=True:=eq_true (by omega)
       have tc1:(k1=0)=False:=eq_false fun q=>absurd (ic1.1 q) (by omega)
       have tc2:(k2=0)=True:=eq_true (ic2.2 (by omega))
       have tc3:(k3=0)=True:=eq_true (ic3.2 (by omega))
       have hsp:=@Nat.succ_ne_zero;repeat' (first|simp (disch:=first|exact dq|fail) only [go_sem,↓reduceIte,hsp,e0,e30,e31,e32,e313,e318,e319,d313,hlti,gA',gB',gA1,gB1,hck1,fnd1,tg0,tl7,tl8,tl12,tl9,tc1,tc2,tc3,mn12,slc,men1,hck2,bs4,← eX1,fnd2,cC1,cC2,bsrI,← eX2,cC3,eq_self,ne_eq,not_true,decide_false,decide_true,neB,bne_self_eq_false]|refine WP_drw ?_|refine cnd_intro (fun hsp=>?_) fun hsp=>?_)
       exact ⟨agq,by omega,fin⟩
      ·have tg0:((n:Int) > 0)=True:=eq_true (by omega)
       have tl7:((n:Int)<7)=False:=eq_false (by omega)
       have tl8:((n:Int)<8)=False:=eq_false (by omega)
       have tl12:((n:Int)<12)=True:=eq_true (by omega)
       have tl9:((n:Int)<9)=False:=eq_false (by omega)
       have tc1:(k1=0)=False:=eq_false fun q=>absurd (ic1.1 q) (by omega)
       have tc2:(k2=0)=True:=eq_true (ic2.2 (by omega))
       have tc3:(k3=0)=False:=eq_false fun q=>absurd (ic3.1 q) (by omega)
       have hsp:=@Nat.succ_ne_zero;repeat' (first|simp (disch:=first|exact dq|fail) only [go_sem,↓reduceIte,hsp,e0,e30,e31,e32,e313,e318,e319,d313,hlti,gA',gB',gA1,gB1,hck1,fnd1,tg0,tl7,tl8,tl12,tl9,tc1,tc2,tc3,mn12,slc,men1,hck2,bs4,← eX1,fnd2,cC1,cC2,bsrI,← eX2,cC3,eq_self,ne_eq,not_true,decide_false,decide_true,neB,bne_self_eq_false]|refine WP_drw ?_|refine cnd_intro (fun hsp=>?_) fun hsp=>?_)
       exact ⟨agq,by omega,fin⟩
      ·have tg0:((n:Int) > 0)=True:=eq_true (by omega)
       have tl7:((n:Int)<7)=False:=eq_false (by omega)
       have tl8:((n:Int)<8)=False:=eq_false (by omega)
       have tl12:((n:Int)<12)=False:=eq_false (by omega)
       have tl9:((n:Int)<9)=False:=eq_false (by omega)
       have tc1:(k1=0)=False:=eq_false fun q=>absurd (ic1.1 q) (by omega)
       have tc2:(k2=0)=False:=eq_false fun q=>absurd (ic2.1 q) (by omega)
       have tc3:(k3=0)=False:=eq_false fun q=>absurd (ic3.1 q) (by omega)
       have hsp:=@Nat.succ_ne_zero;repeat' (first|simp (disch:=first|exact dq|fail) only [go_sem,↓reduceIte,hsp,e0,e30,e31,e32,e313,e318,e319,d313,hlti,gA',gB',gA1,gB1,hck1,fnd1,tg0,tl7,tl8,tl12,tl9,tc1,tc2,tc3,mn12,slc,men1,hck2,bs4,← eX1,fnd2,cC1,cC2,bsrI,← eX2,cC3,eq_self,ne_eq,not_true,decide_false,decide_true,neB,bne_self_eq_false]|refine WP_drw ?_|refine cnd_intro (fun hsp=>?_) fun hsp=>?_)
       exact ⟨agq,by omega,fin⟩
    ·rintro fr1 J hB ⟨d313,xhJ⟩
     have hlt:(((14:Nat):Int)<14)=False:=eq_false (by omega)
     have hlt':((14:Int)<14)=False:=eq_false (by omega)
     have haw:=fun base=>run_awake (base:=base) (h:=J)
     have hsp:=@Nat.succ_ne_zero;repeat' (first|simp (disch:=first|exact dq|fail) only [go_sem,↓reduceIte,hsp,d313,hlt,hlt',haw]|refine WP_drw ?_|refine cnd_intro (fun hsp=>?_) fun hsp=>?_)
     exact fB rfl xhJ
end Go.AM
