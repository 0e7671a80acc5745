/-
  Contracts: the fewest breaks, and which sights are apart, as the reference says it.
-/
import Derived.Test.YtlhmeoeamcgcmaaGreatE70
set_option linter.unusedSimpArgs false
set_option linter.unusedVariables false
namespace Go.AM
open Go.Proofs.Tryz
attribute [-go_sem] put_ne put_same
attribute [local go_sem ↓] put_if
def fewR (ts:List (List Brk)):Nat:=ts.foldl (fun n t=>min n t.length) (ts.getD 0 []).length
theorem foldl_min {ts:List (List Brk)}:∀ {n:Nat},(∀ t ∈ ts,ts.foldl (fun n t=>min n t.length) n≤t.length)∧ts.foldl (fun n t=>min n t.length) n≤n∧(ts.foldl (fun n t=>min n t.length) n=n ∨ ∃ t ∈ ts,ts.foldl (fun n t=>min n t.length) n=t.length):=by
 induction ts with
 | nil=>exact fun {n}=>⟨fun t h=>(by cases h),Nat.le_refl _,.inl rfl⟩
 | cons x ts ih =>
  intro n
  obtain ⟨h1,h2,h3⟩:=ih (n:=min n x.length)
  simp only [List.foldl_cons]
  refine ⟨fun t ht=>?_,by omega,?_⟩
  ·rcases List.mem_cons.1 ht with rfl|ht
   ·omega
   ·exact h1 t ht
  ·rcases h3 with h3|⟨t,h4,h5⟩
   ·rw [h3]
    by_cases c:n≤x.length
    ·exact .inl (by omega)
    ·exact .inr ⟨x,by simp,by omega⟩
   ·exact .inr ⟨t,by simp [h4],h5⟩
set_option maxHeartbeats 1000000 in
theorem run_fewestR {base:Nat} {h:Heap} {av:AVal} {ts:List (List Brk)} (hA0:AllAt 0 h av ts) (hl:ts.length≤3000) (h0:ts ≠ []) (ht:∀ t ∈ ts,t.length≤6) :
  callL prog raw base (.fn 27 [] []) [av] h=some (.int .i64 (fewR ts:Int),h):=by
 have ho3:=hA0.one
 have hn:=hA0.len (show ts.length<2 ^ 60 by omega)
 have h1:=List.length_pos_iff.2 h0
 obtain ⟨t0,et0⟩:∃ t0,t0=ts.getD 0 []:=⟨_,rfl⟩
 have hy0:ts[0]?=some t0:=by rw [et0];exact getD_some h1
 obtain ⟨a0,u0,ad0,ld0,oU0⟩:=hA0.at (show ts.length<2 ^ 60 by omega) hy0
 have hu0:=oU0.one
 have l0:=ld0 _ .refl
 have m0:=ht t0 (List.mem_of_getElem? hy0)
 have ln0:=(oU0.rows (show t0.length<2 ^ 60 by omega)).len (P:=prog) Fc.el66
 rw [Int.natCast_zero] at ad0
 unfold fewR
 rw [← et0]
 refine callL_run func27 rfl rfl ?_
 have hsp:=@Nat.succ_ne_zero;repeat' (first|simp (disch:=first|exact dq|fail) only [go_sem,↓reduceIte,hsp,ad0,l0,ln0]|refine WP_drw ?_|refine cnd_intro (fun hsp=>?_) fun hsp=>?_)
 refine WP_count [(3,21)] 0 ts.length (Nat.zero_le _) (fun H0 i fr h'=>fr 4=.int .i64 (i:Int)∧h'=H0∧fr 3=.int .i64 (((ts.take i).foldl (fun n t=>min n t.length) t0.length:Nat):Int)) ?_ ?_ ?_
 ·exact ⟨by (simp (disch:=first|exact dq|fail) only [go_sem,↓reduceIte,Int.natCast_zero];first|done|rfl),rfl,by simp (disch:=first|exact dq|fail) only [go_sem,↓reduceIte];rfl⟩
 ·rintro i fr H hi0 hi hA ⟨p4,eH,p3⟩
  subst eH
  have p0:=hA 0 rfl
  have p2:=hA 2 rfl
  try simp (disch:=first|exact dq|fail) only [go_sem,↓reduceIte] at p0 p2
  have hlt:((i:Int)<(ts.length:Int))=True:=eq_true (by omega)
  obtain ⟨y,ey⟩:∃ y,y=ts[i]:=⟨_,rfl⟩
  have hy:ts[i]?=some y:=by rw [ey];exact List.getElem?_eq_getElem hi
  obtain ⟨a,u,ad,ld,oU⟩:=hA0.at (show ts.length<2 ^ 60 by omega) hy
  have hu:=oU.one
  have l1:=ld _ .refl
  have m1:=ht y (List.mem_of_getElem? hy)
  have ln:=(oU.rows (show y.length<2 ^ 60 by omega)).len (P:=prog) Fc.el66
  rw [List.take_add_one,hy,List.foldl_append]
  generalize (ts.take i).foldl (fun n t=>min n t.length) t0.length=z at p3 ⊢
  have hsp:=@Nat.succ_ne_zero;repeat' (first|simp (disch:=first|exact dq|fail) only [go_sem,↓reduceIte,hsp,p0,p2,p4,p3,hlt,hn,ad,l1,ln]|refine WP_drw ?_|refine cnd_intro (fun hsp=>?_) fun hsp=>?_)
  refine ⟨agq,by omega,?_⟩
  simp only [Option.toList,List.foldl_cons,List.foldl_nil]
  omega
 ·rintro fr H hA ⟨p4,eH,p3⟩
  subst eH
  have p0:=hA 0 rfl
  have p2:=hA 2 rfl
  try simp (disch:=first|exact dq|fail) only [go_sem,↓reduceIte] at p0 p2
  have hlt:((ts.length:Int)<(ts.length:Int))=False:=eq_false (by omega)
  rw [List.take_length] at p3
  have hsp:=@Nat.succ_ne_zero;repeat' (first|simp (disch:=first|exact dq|fail) only [go_sem,↓reduceIte,hsp,p0,p2,p4,p3,hlt,hn]|refine WP_drw ?_|refine cnd_intro (fun hsp=>?_) fun hsp=>?_)
  exact fI rfl
def cleB (L:Lom) (x:Brk):Bool:=L.ss.any fun s=>!s.bad && splB L x s
def qB (L:Lom) (a b:Nat) (x:Brk):Bool:=(!cleB L x && splB L x (L.ss.getD a sgt0)) && splB L x (L.ss.getD b sgt0)
open Classical in
noncomputable def aprB (L:Lom) (a b:Nat):Bool:=decide (∀ x,brkOk L x→qB L a b x=false)
open Classical in
theorem aprB_true {L:Lom} {a b:Nat} (q:∀ x,brkOk L x→qB L a b x=false):aprB L a b=true:=decide_eq_true q
open Classical in
theorem aprB_false {L:Lom} {a b:Nat} {x:Brk} (hx:brkOk L x) (q:qB L a b x=true):aprB L a b=false:=decide_eq_false fun q2=>by rw [q2 x hx] at q;cases q
theorem sgR_of {L:Lom} (hc:chkM L=0):∀ s ∈ L.ss,sgR s:=fun s hs=>by
 obtain ⟨k1,k2,k3,k4,k5,k6⟩:=chkM_ok hc
 have:=k6 s hs
 exact ⟨by omega,by omega,by omega⟩
theorem stE74 {base:Nat} {l:List Oper} {s:St} {Q:AExit→St→Prop}:WP prog raw base (.region 16 l.toArray true) s Q=WPS prog raw base (.region 16 l.toArray true) s Q:=WP_stop
attribute [local go_sem ↓ 3000] stE74
set_option maxHeartbeats 8000000 in
theorem run_apartR {base:Nat} {h:Heap} {L:Lom} {pv sv:AVal} {a b:Nat} (hP:Parts h pv L.ps) (hS:Rows encS h sv L.ss) (hc:chkM L=0) (hr:∀ p ∈ L.ps,p.rib.length≤1000) (ha:a<L.ss.length) (hb:b<L.ss.length) :
  callL prog raw base (.fn 29 [] []) [lomV L.R L.T pv sv,.int .i64 (a:Int),.int .i64 (b:Int)] h=some (.bool (aprB L a b),h):=by
 have ho:=hP.one
 have ho2:=hS.one
 obtain ⟨k1,k2,k3,k4,k5,k6⟩:=chkM_ok hc
 obtain ⟨T,eT⟩:=Int.eq_ofNat_of_zero_le (show 0≤L.T by omega)
 obtain ⟨G,eG⟩:∃ G,G=h++[rlB L.R L.T pv sv]:=⟨_,rfl⟩
 have xG:Ext h G:=by rw [eG];exact .app .refl
 have g1:G[h.length]?=some (rlB L.R L.T pv sv):=by rw [eG];exact get_eq rfl
 unfold rlB at eG g1
 have sgs:=sgR_of hc
 have tc:=fun {H:Heap} (e:Ext h H) (base:Nat) (x:Brk) (s:Sgt) (hx:brkOk L x) (hs:sgR s)=>run_touches (base:=base) (hP.ext e) ho2 hc hr hx hs
 simp only [encB,encS] at tc
 refine callL_run func29 rfl rfl ?_
 have hsp:=@Nat.succ_ne_zero;repeat' (first|simp (disch:=first|exact dq|fail) only [go_sem,↓reduceIte,hsp,← eG]|refine WP_drw ?_|refine cnd_intro (fun hsp=>?_) fun hsp=>?_)
 refine WP_count [(6,85)] 0 L.ps.length (Nat.zero_le _) (fun _ p fr h'=>fr 7=.int .i64 (p:Int)∧Ext G h'∧∀ x,brkOk L x→x.1<(p:Int)→qB L a b x=false) ?_ ?_ ?_
 ·exact ⟨by (simp (disch:=first|exact dq|fail) only [go_sem,↓reduceIte,Int.natCast_zero];first|done|rfl),.refl,fun x hx q=>by have:=hx.1;omega⟩
 ·rintro p fr K hp0 hp hA ⟨p7,xK,hno⟩
  have p1:=hA 1 rfl
  have p2:=hA 2 rfl
  have p3:=hA 3 rfl
  try simp (disch:=first|exact dq|fail) only [go_sem,↓reduceIte] at p1 p2 p3
  have hlt:((p:Int)<(L.ps.length:Int))=True:=eq_true (by omega)
  have g1K:=xK.get g1
  have lp:=(hP.ext (xG.trans xK)).lenR
  have hsp:=@Nat.succ_ne_zero;repeat' (first|simp (disch:=first|exact dq|fail) only [go_sem,↓reduceIte,hsp,p1,p2,p3,p7,hlt,g1K,lp]|refine WP_drw ?_|refine cnd_intro (fun hsp=>?_) fun hsp=>?_)
  refine WP_count [(6,6),(8,85)] 0 T (Nat.zero_le _) (fun _ f fr h'=>fr 8=.int .i64 (f:Int)∧Ext G h'∧∀ x,brkOk L x→x.1=(p:Int)→x.2.1<(f:Int)→qB L a b x=false) ?_ ?_ ?_
  ·exact ⟨by (simp (disch:=first|exact dq|fail) only [go_sem,↓reduceIte,Int.natCast_zero];first|done|rfl),xK,fun x hx _ q=>by have:=hx.2.2.1;omega⟩
  ·rintro f fr2 K2 hf0 hf hA2 ⟨d8,xK2,hno2⟩
   have d1:=hA2 1 rfl
   have d2:=hA2 2 rfl
   have d3:=hA2 3 rfl
   have d7:=hA2 7 rfl
   try simp (disch:=first|exact dq|fail) only [go_sem,↓reduceIte,p1,p2,p3,p7] at d1 d2 d3 d7
   have hlt2:((f:Int)<L.T)=True:=eq_true (by omega)
   have g1K2:=xK2.get g1
   have hsp:=@Nat.succ_ne_zero;repeat' (first|simp (disch:=first|exact dq|fail) only [go_sem,↓reduceIte,hsp,d1,d2,d3,d7,d8,hlt2,g1K2]|refine WP_drw ?_|refine cnd_intro (fun hsp=>?_) fun hsp=>?_)
   refine WP_count [(6,6),(9,85)] 0 (T-f) (Nat.zero_le _) (fun _ j fr h'=>fr 9=.int .i64 ((f+j:Nat):Int)∧Ext G h'∧∀ i,i<j→qB L a b ((p:Int),(f:Int),((f+i:Nat):Int))=false) ?_ ?_ ?_
   ·exact ⟨by (simp (disch:=first|exact dq|fail) only [go_sem,↓reduceIte,Nat.add_zero,d8];first|done|rfl),xK2,fun i hi=>by omega⟩
   ·rintro j fr3 K3 hj0 hj hA3 ⟨e9,xK3,hno3⟩
    have e1:=hA3 1 rfl
    have e2:=hA3 2 rfl
    have e3:=hA3 3 rfl
    have e7:=hA3 7 rfl
    have e8:=hA3 8 rfl
    try simp (disch:=first|exact dq|fail) only [go_sem,↓reduceIte,d1,d2,d3,d7,d8] at e1 e2 e3 e7 e8
    have hlt3:(((f+j:Nat):Int)<L.T)=True:=eq_true (by omega)
    have g1K3:=xK3.get g1
    obtain ⟨x,ex⟩:∃ x:Brk,x=((p:Int),(f:Int),((f+j:Nat):Int)):=⟨_,rfl⟩
    have hx:brkOk L x:=by rw [ex];unfold brkOk;simp only;omega
    obtain ⟨K4,eK4⟩:∃ K4,K4=K3++[(⟨.cells [.int .i64 (p:Int),.int .i64 (f:Int),.int .i64 ((f+j:Nat):Int)] 128 false false,0⟩:ABlk)]:=⟨_,rfl⟩
    have x34:Ext K3 K4:=by rw [eK4];exact .app .refl
    have gx:K4[K3.length]?=some ⟨.cells [.int .i64 (p:Int),.int .i64 (f:Int),.int .i64 ((f+j:Nat):Int)] 128 false false,0⟩:=by rw [eK4];exact get_eq rfl
    have g1K4:=x34.get g1K3
    have xh4:=(xG.trans xK3).trans x34
    have hh3:=(xG.trans xK3).len
    have hh4:=xh4.len
    have ls:lenOpA prog K4 30 sv=some (.int .i64 (L.ss.length:Int)):=(hS.ext xh4).len Fc.el30
    have tc4:=fun base s hs=>tc xh4 base x s hx hs
    rw [ex] at tc4
    simp only at tc4
    have sig:∀ i,i<L.ss.length→indexAddrA prog 30 sv (.int .i64 (i:Int))=some (elAdr sv encS.z i 0)∧loadP prog K4 126 (elAdr sv encS.z i 0)=some (.agg [.int .i64 (L.ss.getD i sgt0).rib,.int .i64 (L.ss.getD i sgt0).lo,.int .i64 (L.ss.getD i sgt0).hi,.bool (L.ss.getD i sgt0).bad])∧fieldAddrA prog 126 (elAdr sv encS.z i 0) 2=some (elAdr sv encS.z i 3)∧loadP prog K4 4 (elAdr sv encS.z i 3)=some (.bool (L.ss.getD i sgt0).bad):=fun i hi=>by
     have ad:=(hS.ext xh4).addr (P:=prog) (i:=(i:Int)) Fc.el30 Fc.ar30 (by omega) (by omega)
     rw [Int.toNat_natCast] at ad
     exact ⟨ad,(hS.ext xh4).load (P:=prog) Fc.ty126 (getD_some hi),elAdr_field (P:=prog) (i:=i) (o:=0) (off:=3) (q:=false) (n:=1) (hS.ext xh4) (by omega) (by kernel_rfl) (by decide),(hS.ext xh4).cell (P:=prog) Fc.ty4 (getD_some hi) (o:=3) (a:=.bool (L.ss.getD i sgt0).bad) rfl⟩
    have hsp:=@Nat.succ_ne_zero;repeat' (first|simp (disch:=first|exact dq|fail) only [go_sem,↓reduceIte,hsp,e1,e2,e3,e7,e8,e9,hlt3,g1K3,← eK4]|refine WP_drw ?_|refine cnd_intro (fun hsp=>?_) fun hsp=>?_)
    refine WP_count [(11,63)] 0 L.ss.length (Nat.zero_le _) (fun _ i fr h'=>fr 12=.int .i64 (i:Int)∧h'=K4∧fr 11=.bool ((L.ss.take i).any fun s=>!s.bad && splB L x s)) ?_ ?_ ?_
    ·exact ⟨by (simp (disch:=first|exact dq|fail) only [go_sem,↓reduceIte,Int.natCast_zero];first|done|rfl),rfl,by simp (disch:=first|exact dq|fail) only [go_sem,↓reduceIte];simp⟩
    ·rintro i fr4 K5 hi0 hi hA4 ⟨w12,eK5,w11⟩
     subst eK5
     have w1:=hA4 1 rfl
     have w2:=hA4 2 rfl
     have w3:=hA4 3 rfl
     have w6:=hA4 6 rfl
     have w7:=hA4 7 rfl
     have w8:=hA4 8 rfl
     have w9:=hA4 9 rfl
     have w10:=hA4 10 rfl
     try simp (disch:=first|exact dq|fail) only [go_sem,↓reduceIte,e1,e2,e3,e7,e8,e9] at w1 w2 w3 w6 w7 w8 w9 w10
     have hlt4:((i:Int)<(L.ss.length:Int))=True:=eq_true (by omega)
     obtain ⟨s1,s2,s3,s4⟩:=sig i hi
     have hsi:L.ss[i]?=some (L.ss.getD i sgt0):=getD_some hi
     have e5:=fun base=>tc4 base (L.ss.getD i sgt0) (sgs _ (List.mem_of_getElem? hsi))
     rw [any_take_succ _ hsi]
     rw [← ex] at e5
     generalize (L.ss.getD i sgt0)=s at s2 s4 e5 hsi ⊢
     generalize ((L.ss.take i).any fun s=>!s.bad && splB L x s)=z1 at w11 ⊢
     rcases Bool.eq_false_or_eq_true z1 with q1|q1
     ·rw [q1] at w11 ⊢
      have hsp:=@Nat.succ_ne_zero;repeat' (first|simp (disch:=first|exact dq|fail) only [go_sem,↓reduceIte,hsp,w1,w2,w3,w6,w7,w8,w9,w10,w12,w11,hlt4,g1K4,ls]|refine WP_drw ?_|refine cnd_intro (fun hsp=>?_) fun hsp=>?_)
      exact ⟨agq,by omega,rfl⟩
     ·rw [q1] at w11 ⊢
      rcases Bool.eq_false_or_eq_true s.bad with q2|q2
      ·rw [q2] at s4 ⊢
       have hsp:=@Nat.succ_ne_zero;repeat' (first|simp (disch:=first|exact dq|fail) only [go_sem,↓reduceIte,hsp,w1,w2,w3,w6,w7,w8,w9,w10,w12,w11,hlt4,g1K4,ls,s1,s2,s3,s4]|refine WP_drw ?_|refine cnd_intro (fun hsp=>?_) fun hsp=>?_)
       exact ⟨agq,by omega,rfl⟩
      ·rw [q2] at s2 s4 e5 ⊢
       have hsp:=@Nat.succ_ne_zero;repeat' (first|simp (disch:=first|exact dq|fail) only [go_sem,↓reduceIte,hsp,w1,w2,w3,w6,w7,w8,w9,w10,w12,w11,hlt4,g1K4,ls,s1,s2,s3,s4,gx,e5]|refine WP_drw ?_|refine cnd_intro (fun hsp=>?_) fun hsp=>?_)
       exact ⟨agq,by omega,rfl⟩
    ·rintro fr4 K5 hA4 ⟨w12,eK5,w11⟩
     subst eK5
     have w1:=hA4 1 rfl
     have w2:=hA4 2 rfl
     have w3:=hA4 3 rfl
     have w6:=hA4 6 rfl
     have w7:=hA4 7 rfl
     have w8:=hA4 8 rfl
     have w9:=hA4 9 rfl
     have w10:=hA4 10 rfl
     try simp (disch:=first|exact dq|fail) only [go_sem,↓reduceIte,e1,e2,e3,e7,e8,e9] at w1 w2 w3 w6 w7 w8 w9 w10
     have hlt4:((L.ss.length:Int)<(L.ss.length:Int))=False:=eq_false (by omega)
     rw [List.take_length] at w11
     obtain ⟨a1,a2,a3,a4⟩:=sig a ha
     obtain ⟨b1,b2,b3,b4⟩:=sig b hb
     have e5:=fun base=>tc4 base (L.ss.getD a sgt0) (sgs _ (List.mem_of_getElem? (getD_some ha)))
     have e6:=fun base=>tc4 base (L.ss.getD b sgt0) (sgs _ (List.mem_of_getElem? (getD_some hb)))
     rw [← ex] at e5 e6
     have eq:qB L a b x=((!cleB L x && splB L x (L.ss.getD a sgt0)) && splB L x (L.ss.getD b sgt0)):=rfl
     have ec:cleB L x=(L.ss.any fun s=>!s.bad && splB L x s):=rfl
     rw [← ec] at w11
     have hsp:=@Nat.succ_ne_zero;repeat' (first|simp (disch:=first|exact dq|fail) only [go_sem,↓reduceIte,hsp,w1,w2,w3,w6,w7,w8,w9,w10,w12,w11,hlt4,g1K4,ls]|refine WP_drw ?_|refine cnd_intro (fun hsp=>?_) fun hsp=>?_)
     refine WPS_restF fun Z eZ=>?_
     refine WP_draw (by kernel_rfl) ?_
     have kZ1:=congrFun eZ 1
     have kZ2:=congrFun eZ 2
     have kZ3:=congrFun eZ 3
     have kZ6:=congrFun eZ 6
     have kZ7:=congrFun eZ 7
     have kZ8:=congrFun eZ 8
     have kZ9:=congrFun eZ 9
     have kZ10:=congrFun eZ 10
     have kZ11:=congrFun eZ 11
     have kZ12:=congrFun eZ 12
     try simp (disch:=first|exact dq|fail) only [go_sem,↓reduceIte,w1,w2,w3,w6,w7,w8,w9,w10,w11,w12] at kZ1 kZ2 kZ3 kZ6 kZ7 kZ8 kZ9 kZ10 kZ11 kZ12
     have aZ:Agree [(6,6),(9,85)] Z fr3:=by rw [eZ];exact agq
     clear eZ
     refine OPS_meet (fun fr h'=>Agree [(64,85)] fr Z∧h'=K5∧fr 85=.bool (qB L a b x)) ?_ ?_
     ·rcases Bool.eq_false_or_eq_true (cleB L x) with q1|q1
      ·rw [q1] at eq
       rw [eq]
       have hsp:=@Nat.succ_ne_zero;repeat' (first|simp (disch:=first|exact dq|fail) only [go_sem,↓reduceIte,hsp,kZ1,kZ2,kZ3,kZ6,kZ7,kZ8,kZ9,kZ10,kZ11,kZ12,q1]|refine WP_drw ?_|refine cnd_intro (fun hsp=>?_) fun hsp=>?_)
       exact ⟨agq,rfl⟩
      ·rw [q1] at eq
       rcases Bool.eq_false_or_eq_true (splB L x (L.ss.getD a sgt0)) with q2|q2
       ·rw [q2] at eq e5
        rw [eq]
        have hsp:=@Nat.succ_ne_zero;repeat' (first|simp (disch:=first|exact dq|fail) only [go_sem,↓reduceIte,hsp,kZ1,kZ2,kZ3,kZ6,kZ7,kZ8,kZ9,kZ10,kZ11,kZ12,q1,g1K4,gx,a1,a2,b1,b2,e5,e6]|refine WP_drw ?_|refine cnd_intro (fun hsp=>?_) fun hsp=>?_)
        exact ⟨agq,rfl⟩
       ·rw [q2] at eq e5
        rw [eq]
        have hsp:=@Nat.succ_ne_zero;repeat' (first|simp (disch:=first|exact dq|fail) only [go_sem,↓reduceIte,hsp,kZ1,kZ2,kZ3,kZ6,kZ7,kZ8,kZ9,kZ10,kZ11,kZ12,q1,g1K4,gx,a1,a2,e5]|refine WP_drw ?_|refine cnd_intro (fun hsp=>?_) fun hsp=>?_)
        exact ⟨agq,rfl⟩
     ·rintro fr5 K6 ⟨hA5,eK6,r85⟩
      subst eK6
      have z1:=hA5 1 rfl
      have z2:=hA5 2 rfl
      have z3:=hA5 3 rfl
      have z6:=hA5 6 rfl
      have z7:=hA5 7 rfl
      have z8:=hA5 8 rfl
      have z9:=hA5 9 rfl
      have z10:=hA5 10 rfl
      try simp (disch:=first|exact dq|fail) only [go_sem,↓reduceIte,kZ1,kZ2,kZ3,kZ6,kZ7,kZ8,kZ9,kZ10] at z1 z2 z3 z6 z7 z8 z9 z10
      rcases Bool.eq_false_or_eq_true (qB L a b x) with q1|q1
      ·rw [q1] at r85
       rw [aprB_false hx q1]
       have hsp:=@Nat.succ_ne_zero;repeat' (first|simp (disch:=first|exact dq|fail) only [go_sem,↓reduceIte,hsp,z1,z2,z3,z6,z7,z8,z9,z10,r85]|refine WP_drw ?_|refine cnd_intro (fun hsp=>?_) fun hsp=>?_)
       exact fB rfl xh4
      ·rw [q1] at r85
       have hsp:=@Nat.succ_ne_zero;repeat' (first|simp (disch:=first|exact dq|fail) only [go_sem,↓reduceIte,hsp,z1,z2,z3,z6,z7,z8,z9,z10,r85]|refine WP_drw ?_|refine cnd_intro (fun hsp=>?_) fun hsp=>?_)
       refine ⟨agq,by omega,xK3.trans x34,fun i hi=>?_⟩
       by_cases c:i=j
       ·subst c;rw [← ex];exact q1
       ·exact hno3 i (by omega)
   ·rintro fr3 K3 hA3 ⟨e9,xK3,hno3⟩
    have e1:=hA3 1 rfl
    have e2:=hA3 2 rfl
    have e3:=hA3 3 rfl
    have e7:=hA3 7 rfl
    have e8:=hA3 8 rfl
    try simp (disch:=first|exact dq|fail) only [go_sem,↓reduceIte,d1,d2,d3,d7,d8] at e1 e2 e3 e7 e8
    have hlt3:(((f+(T-f):Nat):Int)<L.T)=False:=eq_false (by omega)
    have g1K3:=xK3.get g1
    have hsp:=@Nat.succ_ne_zero;repeat' (first|simp (disch:=first|exact dq|fail) only [go_sem,↓reduceIte,hsp,e1,e2,e3,e7,e8,e9,hlt3,g1K3]|refine WP_drw ?_|refine cnd_intro (fun hsp=>?_) fun hsp=>?_)
    refine ⟨agq,by omega,xK3,fun x hx h1 h2=>?_⟩
    by_cases c:x.2.1<(f:Int)
    ·exact hno2 x hx h1 c
    ·obtain ⟨x1,x2,x3⟩:=x
     simp only [brkOk] at hx h1 h2 c
     have:=hno3 (x3-f).toNat (by omega)
     rw [show ((f+(x3-f).toNat:Nat):Int)=x3 by omega,← h1,show (f:Int)=x2 by omega] at this
     exact this
  ·rintro fr2 K2 hA2 ⟨d8,xK2,hno2⟩
   have d1:=hA2 1 rfl
   have d2:=hA2 2 rfl
   have d3:=hA2 3 rfl
   have d7:=hA2 7 rfl
   try simp (disch:=first|exact dq|fail) only [go_sem,↓reduceIte,p1,p2,p3,p7] at d1 d2 d3 d7
   have hlt2:((T:Int)<L.T)=False:=eq_false (by omega)
   have g1K2:=xK2.get g1
   have hsp:=@Nat.succ_ne_zero;repeat' (first|simp (disch:=first|exact dq|fail) only [go_sem,↓reduceIte,hsp,d1,d2,d3,d7,d8,hlt2,g1K2]|refine WP_drw ?_|refine cnd_intro (fun hsp=>?_) fun hsp=>?_)
   refine ⟨agq,by omega,xK2,fun x hx h1=>?_⟩
   by_cases c:x.1<(p:Int)
   ·exact hno x hx c
   ·exact hno2 x hx (by omega) (by have:=hx.2.2;omega)
 ·rintro fr K hA ⟨p7,xK,hno⟩
  have p1:=hA 1 rfl
  have p2:=hA 2 rfl
  have p3:=hA 3 rfl
  try simp (disch:=first|exact dq|fail) only [go_sem,↓reduceIte] at p1 p2 p3
  have hlt:((L.ps.length:Int)<(L.ps.length:Int))=False:=eq_false (by omega)
  have g1K:=xK.get g1
  have lp:=(hP.ext (xG.trans xK)).lenR
  rw [aprB_true fun x hx=>hno x hx hx.2.1]
  have hsp:=@Nat.succ_ne_zero;repeat' (first|simp (disch:=first|exact dq|fail) only [go_sem,↓reduceIte,hsp,p1,p2,p3,p7,hlt,g1K,lp]|refine WP_drw ?_|refine cnd_intro (fun hsp=>?_) fun hsp=>?_)
  exact fB rfl (xG.trans xK)
end Go.AM
