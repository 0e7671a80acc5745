/-
  Contracts of package card: all plans with a number of cards, the plan with the fewest, the chain with the fewest.
-/
import Derived.Test.YtcemgempgbjbeaaGreatU17
import Derived.Test.YtcemgempgbjbeaaGreatU8
import Derived.Test.YtcemgempgbjbeaaGreatU15
import Derived.Test.YtcemgempgbjbeaaGreatU16
import Derived.Test.YtcemgempgbjbeaaGreatU12
set_option linter.unusedSimpArgs false
set_option linter.unusedVariables false
namespace Go.AM
namespace L3
open Go.Proofs.Tryz
theorem refs_pap {w:Nat} {v:AVal}:refsL [.int .i64 (w:Int),v]=v.refs:=by simp [refsL,AVal.refs]
theorem run_plans {base:Nat} {h:Heap} {v:AVal} {l:List Int} {w:Nat} {n:Int} (hI:Ints h v l):callL prog raw base (.fn 205 [] []) [papV w v,.int .i64 n] h =
  some (.fn 258 [] [.ptr (some ⟨h.length,0,0⟩),.ptr (some ⟨h.length+1,0,0⟩)],h++[inB n,⟨.cells [.int .i64 (w:Int),v] 268 false false,0⟩]):=by
 refine callL_run func205 rfl rfl ?_
 have hsp:=@Nat.succ_ne_zero;repeat' (first|simp (disch:=first|exact dqb|fail) only [go_sem,hsp]|refine WP_drw ?_|refine cnd_intro (fun hsp=>?_) fun hsp=>?_)
 rw [List.append_assoc]
 have hlow:=hI.refs_lt
 have hlen:=hI.refs_len
 rw [compact_gen (js:=[1,0]) (bs:=[inB n,⟨.cells [.int .i64 (w:Int),v] 268 false false,0⟩]) (by simp [AVal.refs,refsL]) (by decide) ?_ ?_ rfl]
 ·have n0:∀ {js:List Nat} {u:Nat},newId h.length (js.map fun j=>h.length+j) h.length u=(h.length+js.idxOf 0,0):=fun {js u}=>newId_map (j:=0)
  have n1:∀ {js:List Nat} {u:Nat},newId h.length (js.map fun j=>h.length+j) (h.length+1) u=(h.length+js.idxOf 1,0):=fun {js u}=>newId_map (j:=1)
  simp only [AVal.ren,renL,n0,n1]
  rfl
 ·intro j hj
  simp only [List.mem_cons,List.not_mem_nil,or_false] at hj
  rcases hj with rfl|rfl
  ·exact ⟨_,_,_,_,rfl,by simp [refsL,AVal.refs],by simp [renL,AVal.ren]⟩
  ·refine ⟨_,_,_,_,rfl,by rw [refs_pap];exact hlow,?_⟩
   simp only [renL,AVal.ren,hI.ren_low]
 ·simp [rcost,blkRefs,ABody.refs,refsL,AVal.refs]
  omega
def planK (j:Nat):Int:=if j=0 then 0 else if j=1 then 1 else 2
def planT (j:Nat):Int:=if j≤1 then 0 else (j:Int)-1
theorem run_plans1 {base m L cp dp:Nat} {H0:Heap} {v:AVal} {w:Nat} {n:Int} (hw:1≤w∧w≤8) (J:Nat→Heap→Prop) (S:Heap→Prop) (happ:∀ j H T,J j H→J j (H++T)) (hm:∀ j H,J j H→m≤H.length)
  (hget:∀ j H,J j H→H[cp]?=some (inB n)∧H[dp]?=some ⟨.cells [.int .i64 (w:Int),v] 268 false false,0⟩)
  (hy:∀ j H,j<w+1→J j H→∃ b H',callL prog raw base (.yld L) [plnV (planK j) n (planT j)] H=some (.bool b,H')∧(∀ i x,m≤i→H[i]?=some x→H'[i]?=some x)∧(b=true→J (j+1) H')∧(b=false→S H'))
  (h0:J 0 H0):∃ H',callL prog raw base (.fn 258 [] [.ptr (some ⟨cp,0,0⟩),.ptr (some ⟨dp,0,0⟩)]) [.yld L] H0=some (.tuple [],H')∧(J (w+1) H' ∨ S H'):=by
 have key:=callL_rawW (P:=prog) (raw:=raw) (base:=base) (f:=258) (fn:=f258) (first:=[]) (captured:=[.ptr (some ⟨cp,0,0⟩),.ptr (some ⟨dp,0,0⟩)]) (args:=[.yld L]) (h:=H0) (K:=fun v H'=>v=.tuple []∧(J (w+1) H' ∨ S H')) func258 rfl rfl ?_
 ·obtain ⟨v,H',h1,rfl,h2⟩:=key
  exact ⟨H',h1,h2⟩
 have bs:∀ {lit:Bool} {H:Heap},lit=false→bsA prog lit H 352 2 [(0,.int .i64 0),(1,.int .i64 1)]=some (.slice (some ⟨H.length,0,0⟩) 2 2,H++[⟨.cells [.int .i64 0,.int .i64 1] 48 true false,0⟩]):=fun {lit H} hl=>by
  subst hl
  simp [bsA,rowOf,Fc.el352,fillA,repCells,AVal.isN,AVal.cells,splice]
 have len:∀ {H:Heap} {o m k:Nat},lenOpA prog H 352 (.slice (some ⟨o,0,0⟩) m k)=some (.int .i64 (m:Int)):=fun {H o m k}=>by simp [lenOpA,Fc.el352,lenA]
 have adr:∀ {o m k:Nat} {i:Int},0≤i→i<m→indexAddrA prog 352 (.slice (some ⟨o,0,0⟩) m k) (.int .i64 i)=some (.ptr (some ⟨o,0,i.toNat⟩)):=fun {o m k i} h0 h1=>by
  simp [indexAddrA,Fc.ar352,Fc.el352,h0,h1,ARef.add]
 have hm0:=hm 0 H0 h0
 have hsp:=@Nat.succ_ne_zero;repeat' (first|simp (disch:=first|exact dqb|fail) only [go_sem,hsp,bs,len]|refine WP_drw ?_|refine cnd_intro (fun hsp=>?_) fun hsp=>?_)
 refine WP_loop (fun σ=>∃ i:Nat,i≤2∧σ.fr 9=.int .i64 (i:Int)∧σ.fr 8=.int .i64 2∧σ.fr 7=.slice (some ⟨H0.length,0,0⟩) 2 2∧σ.fr 0=.yld L∧σ.fr 1=.ptr (some ⟨cp,0,0⟩)∧σ.fr 2=.ptr (some ⟨dp,0,0⟩) ∧
  σ.h[H0.length]?=some ⟨.cells [.int .i64 0,.int .i64 1] 48 true false,0⟩∧J i σ.h) (fun σ=>match σ.fr 9 with|.int _ x=>(2-x).toNat|_=>0) ?_ ?_
 ·refine ⟨0,by omega,by simp (disch:=first|exact dqb|fail) only [go_sem,Int.natCast_zero],by (first|(simp (disch:=first|exact dqb|fail) only [go_sem];done)|(simp (disch:=first|exact dqb|fail) only [go_sem];rfl)),by simp (disch:=first|exact dqb|fail) only [go_sem],by simp (disch:=first|exact dqb|fail) only [go_sem],by simp (disch:=first|exact dqb|fail) only [go_sem],by simp (disch:=first|exact dqb|fail) only [go_sem],by simp,happ _ _ _ h0⟩
 ·rintro ⟨fr,H⟩ ⟨i,hi,r9,r8,r7,r0,r1,r2,hb,hJ⟩
  dsimp only at r9 r8 r7 r0 r1 r2 hb hJ
  obtain ⟨hg1,hg2⟩:=hget i H hJ
  by_cases hi2:i<2
  ·have hv:([.int .i64 0,.int .i64 1]:List AVal)[i]?=some (.int .i64 (planK i)):=by
    have:i=0 ∨ i=1:=by omega
    rcases this with rfl|rfl<;>rfl
   have ht:planT i=0:=by unfold planT;rw [if_pos (by omega)]
   obtain ⟨b,H',hc,hkeep,ht',hf⟩:=hy i H (by omega) hJ
   rw [ht] at hc
   have hi2':((i:Int)<2)=True:=eq_true (by omega)
   have hsp:=@Nat.succ_ne_zero;repeat' (first|simp (disch:=first|exact dqb|fail) only [go_sem,hsp,r9,r8,r7,r0,r1,r2,bs,len,adr,hb,hg1,inB,hv,hc,hi2']|refine WP_drw ?_|refine cnd_intro (fun hsp=>?_) fun hsp=>?_)
   ·exact .inr (hf (by simpa using ‹_›))
   ·refine ⟨⟨i+1,by omega,by simp,hkeep _ _ hm0 hb,ht' (by cases b with|true=>rfl|false=>exact absurd rfl (by assumption))⟩,by omega⟩
  ·have hi2':((i:Int)<2)=False:=eq_false (by omega)
   have e2:i=2:=by omega
   subst e2
   have hsp:=@Nat.succ_ne_zero;repeat' (first|simp (disch:=first|exact dqb|fail) only [go_sem,hsp,r9,r8,r7,r0,r1,r2,bs,len,hi2']|refine WP_drw ?_|refine cnd_intro (fun hsp=>?_) fun hsp=>?_)
   refine WP_loop (fun σ=>∃ i:Nat,1≤i∧(i:Int)≤w∧σ.fr 6=.int .i64 (i:Int)∧σ.fr 0=.yld L∧σ.fr 1=.ptr (some ⟨cp,0,0⟩)∧σ.fr 2=.ptr (some ⟨dp,0,0⟩)∧J (i+1) σ.h) (fun σ=>match σ.fr 6 with|.int _ x=>(w-x).toNat|_=>0) ?_ ?_
   ·refine ⟨1,by omega,by omega,by (first|(simp (disch:=first|exact dqb|fail) only [go_sem,r0,r1,r2];done)|(simp (disch:=first|exact dqb|fail) only [go_sem,r0,r1,r2];rfl)),by simp (disch:=first|exact dqb|fail) only [go_sem,r0,r1,r2],by simp (disch:=first|exact dqb|fail) only [go_sem,r0,r1,r2],by simp (disch:=first|exact dqb|fail) only [go_sem,r0,r1,r2],hJ⟩
   ·rintro ⟨fr,H⟩ ⟨i,hi1,hi,r6,r0,r1,r2,hJ⟩
    dsimp only at r6 r0 r1 r2 hJ
    obtain ⟨hg1,hg2⟩:=hget (i+1) H hJ
    by_cases hiw:(i:Int)<w
    ·have hp:planK (i+1)=2:=by unfold planK;rw [if_neg (by omega),if_neg (by omega)]
     have ht:planT (i+1)=i:=by unfold planT;rw [if_neg (by omega)];omega
     obtain ⟨b,H',hc,hkeep,ht',hf⟩:=hy (i+1) H (by omega) hJ
     rw [ht,hp] at hc
     have hiw':((i:Int)<w)=True:=eq_true hiw
     have hsp:=@Nat.succ_ne_zero;repeat' (first|simp (disch:=first|exact dqb|fail) only [go_sem,hsp,r6,r0,r1,r2,hg1,hg2,inB,hc,hiw']|refine WP_drw ?_|refine cnd_intro (fun hsp=>?_) fun hsp=>?_)
     ·exact .inr (hf (by simpa using ‹_›))
     ·refine ⟨⟨i+1,by omega,by omega,by simp,ht' (by cases b with|true=>rfl|false=>exact absurd rfl (by assumption))⟩,by omega⟩
    ·have hiw':((i:Int)<w)=False:=eq_false hiw
     have hsp:=@Nat.succ_ne_zero;repeat' (first|simp (disch:=first|exact dqb|fail) only [go_sem,hsp,r6,r0,r1,r2,hg1,hg2,inB,hiw']|refine WP_drw ?_|refine cnd_intro (fun hsp=>?_) fun hsp=>?_)
     have e:i+1=w+1:=by omega
     rw [e] at hJ
     exact .inl hJ
theorem yld_plans {base L cp dp:Nat} {v:AVal} {w:Nat} {n:Int} {I:Nat→Heap→Prop} (hw:1≤w∧w≤8) (hI:∀ j H,I j H→H[cp]?=some (inB n)∧H[dp]?=some ⟨.cells [.int .i64 (w:Int),v] 268 false false,0⟩) :
  Yields prog raw base L (.fn 258 [] [.ptr (some ⟨cp,0,0⟩),.ptr (some ⟨dp,0,0⟩)]) (w+1) (fun j=>[plnV (planK j) n (planT j)]) I:=by
 intro J S H0 hL hJ happ hy h0
 obtain ⟨H',h1,h2⟩:=run_plans1 (m:=L+1) hw J S happ (fun j H h=>(hJ j H h).2) (fun j H h=>hI j H (hJ j H h).1) hy h0
 exact ⟨_,H',h1,h2⟩
def okP (w:Nat) (l:List Int) (n j:Nat):Bool:=!(fstS w l (planK j).toNat n (planT j).toNat).2.2
def fewJ (w:Nat) (l:List Int) (n:Nat):Option Nat:=fndI (okP w l n) (w+1)
def fewN (w:Nat) (l:List Int):Option Nat:=fndI (fun m=>(fewJ w l (m+1)).isSome) l.length
def fewestS (w:Nat) (l:List Int):Int × Int × Int :=
 match fewN w l with
 | some m=>match fewJ w l (m+1) with|some j=>(planK j,(m:Int)+1,planT j)|none=>(0,l.length,0)
 | none=>(0,l.length,0)
theorem planK_bd {j:Nat}:0≤planK j∧planK j≤2:=by
 unfold planK;split
 ·omega
 ·split<;>omega
theorem planT_bd {j:Nat} (h:j≤9):0≤planT j∧planT j≤1000:=by
 unfold planT;split<;>omega
theorem okP_all {w:Nat} {l:List Int} (ok:PapOk w l):okP w l l.length 0=true:=by
 unfold okP
 rw [show (planK 0).toNat=0 from rfl,show (planT 0).toNat=0 from rfl,fst_all ok];rfl
theorem fewN_some {w:Nat} {l:List Int} (ok:PapOk w l):∃ m j,fewN w l=some m∧fewJ w l (m+1)=some j:=by
 have hp:=ok.hn
 cases h:fewN w l with
 | some m =>
  have h1:=(fndI_is h).2.1
  cases h2:fewJ w l (m+1) with
  | some j=>exact ⟨m,j,rfl,h2⟩
  | none=>rw [h2] at h1;cases h1
 | none =>
  have h1:=fndI_not h (l.length-1) (by omega)
  rw [show l.length-1+1=l.length by omega] at h1
  cases h2:fewJ w l l.length with
  | some j=>rw [h2] at h1;cases h1
  | none =>
   have:=fndI_not h2 0 (by omega)
   rw [okP_all ok] at this
   cases this
def z3:List AVal:=[.int .i64 0,.int .i64 0,.int .i64 0]
def FB (h H:Heap) (w:Nat) (v:AVal) (out:List AVal):Prop:=Ext h H∧H[h.length]?=some ⟨.cells [.int .i64 (w:Int),v] 268 false false,0⟩∧H[h.length+1]?=some ⟨.cells z3 266 false false,0⟩ ∧
 H[h.length+2]?=some ⟨.cells z3 266 false false,0⟩∧H[h.length+3]?=some ⟨.cells out 266 false false,0⟩
theorem FB.app {h H T:Heap} {w:Nat} {v:AVal} {out:List AVal} (f:FB h H w v out):FB h (H++T) w v out :=
 ⟨f.1.app,get_app f.2.1,get_app f.2.2.1,get_app f.2.2.2.1,get_app f.2.2.2.2⟩
theorem FB.set {h H:Heap} {w:Nat} {v:AVal} {out:List AVal} {i:Nat} {b:ABlk} (f:FB h H w v out) (hi:h.length+4≤i):FB h (H.set i b) w v out:=by
 refine ⟨f.1.set (by omega),?_,?_,?_,?_⟩
 ·rw [get_set f.2.1,if_neg (by omega)]
 ·rw [get_set f.2.2.1,if_neg (by omega)]
 ·rw [get_set f.2.2.2.1,if_neg (by omega)]
 ·rw [get_set f.2.2.2.2,if_neg (by omega)]
theorem FB.out {h H:Heap} {w:Nat} {v:AVal} {out out':List AVal} (f:FB h H w v out):FB h (H.set (h.length+3) ⟨.cells out' 266 false false,0⟩) w v out':=by
 refine ⟨f.1.set (by omega),?_,?_,?_,?_⟩
 ·rw [get_set f.2.1,if_neg (by omega)]
 ·rw [get_set f.2.2.1,if_neg (by omega)]
 ·rw [get_set f.2.2.2.1,if_neg (by omega)]
 ·rw [get_set f.2.2.2.2,if_pos rfl]
theorem FB.len {h H:Heap} {w:Nat} {v:AVal} {out:List AVal} (f:FB h H w v out):h.length+4≤H.length:=lt_of_get f.2.2.2.2
theorem run_fewestQ {base:Nat} {h:Heap} {v:AVal} {l:List Int} {w:Nat} (hI:Ints h v l) (ok:PapOk w l) :
  callL prog raw base (.fn 136 [] []) [papV w v] h=some (plnV (fewestS w l).1 (fewestS w l).2.1 (fewestS w l).2.2,h):=by
 have hw:=ok.hw
 have hp:=ok.hn
 have ov:=hI.one
 have hlI:=fun (T:Heap)=>lenI (hI.ext (.app (t:=T) .refl))
 refine callL_run func136 rfl rfl ?_
 have hsp:=@Nat.succ_ne_zero;repeat' (first|simp (disch:=first|exact dqb|fail) only [go_sem,hsp,hlI]|refine WP_drw ?_|refine cnd_intro (fun hsp=>?_) fun hsp=>?_)
 refine WP_loop (fun σ=>∃ i:Nat,i≤l.length∧σ.fr 16=.int .i64 (i:Int)∧σ.fr 15=.int .i64 l.length∧σ.fr 1=.ptr (some ⟨h.length,0,0⟩)∧σ.fr 2=.ptr (some ⟨h.length+1,0,0⟩)∧σ.fr 3=.ptr (some ⟨h.length+2,0,0⟩)∧σ.fr 4=.ptr (some ⟨h.length+3,0,0⟩) ∧
  FB h σ.h w v z3∧∀ j,j<i→(fewJ w l (j+1)).isSome=false) (fun σ=>match σ.fr 16 with|.int _ x=>(l.length-x).toNat|_=>0) ?_ ?_
 ·refine ⟨0,by omega,by simp (disch:=first|exact dqb|fail) only [go_sem,Int.natCast_zero],by simp (disch:=first|exact dqb|fail) only [go_sem],by simp (disch:=first|exact dqb|fail) only [go_sem],by simp (disch:=first|exact dqb|fail) only [go_sem],by simp (disch:=first|exact dqb|fail) only [go_sem],by simp (disch:=first|exact dqb|fail) only [go_sem],?_,fun j hj=>by omega⟩
  dsimp only
  refine ⟨.app (.app (.app (.app .refl))),by simp (disch:=first|exact dqb|fail) only [go_sem],by simp (disch:=first|exact dqb|fail) only [go_sem,z3],?_,?_⟩
  ·rw [get_lt (by simp),get_eq (by simp)];rfl
  ·rw [get_eq (by simp)];rfl
 ·rintro ⟨fr,H⟩ ⟨i,hi,r16,r15,r1,r2,r3,r4,hf,hno⟩
  dsimp only at r16 r15 r1 r2 r3 r4 hf
  have hf0:=hf
  obtain ⟨hE,g0,g1,g2,g3⟩:=hf
  have hI':=hI.ext hE
  have hlI:=lenI hI'
  by_cases hil:i<l.length
  ·have hil':((i:Int)<l.length)=True:=eq_true (by omega)
   have pl:=fun base=>run_plans (base:=base) (w:=w) (n:=(i:Int)+1) hI'
   have hsp:=@Nat.succ_ne_zero;repeat' (first|simp (disch:=first|exact dqb|fail) only [go_sem,hsp,r16,r15,r1,r2,r3,r4,g0,hil',pl]|refine WP_drw ?_|refine cnd_intro (fun hsp=>?_) fun hsp=>?_)
   refine WP_range (f:=258) (a:=[]) (c:=[.ptr (some ⟨H.length,0,0⟩),.ptr (some ⟨H.length+1,0,0⟩)]) (by simp (disch:=first|exact dqb|fail) only [go_sem]) (N:=w+1) (xs:=fun j=>[plnV (planK j) ((i:Int)+1) (planT j)])
    (fun j H2=>FB h H2 w v z3∧H2[H.length]?=some (inB ((i:Int)+1))∧H2[H.length+1]?=some ⟨.cells [.int .i64 (w:Int),v] 268 false false,0⟩∧∀ t,t<j→okP w l (i+1) t=false)
    (fun e H2=>e=.exit 0∧∃ j,fewJ w l (i+1)=some j∧FB h H2 w v [.int .i64 (planK j),.int .i64 ((i:Int)+1),.int .i64 (planT j)])
    (yld_plans hw (fun j H2 hh=>⟨hh.2.1,hh.2.2.1⟩)) (fun j=>rfl) (fun j H2 T hh=>⟨hh.1.app,get_app hh.2.1,get_app hh.2.2.1,hh.2.2.2⟩) ?_ ?_ ?_ ?_ ?_ ?_
   ·intro j H2 b hh
    have hl:=hf0.len
    refine ⟨hh.1.set (by simp;omega),?_,?_,hh.2.2.2⟩
    ·rw [get_set hh.2.1,if_neg (by simp)]
    ·rw [get_set hh.2.2.1,if_neg (by simp)]
   ·rintro e H2 b ⟨he,j,h1,h2⟩
    have hl:=hf0.len
    exact ⟨he,j,h1,h2.set (by simp;omega)⟩
   ·refine ⟨hf0.app.app,get_app (by simp),get_app (by simp),fun t ht=>by omega⟩
   ·rintro j H2 B1 B2 hj ⟨hf2,hc2,hd2,hno2⟩ hlen2 hl2
    have hl:=hf0.len
    have hL:(H++[inB ((i:Int)+1),⟨.cells [.int .i64 (w:Int),v] 268 false false,0⟩]).length=H.length+2:=by simp
    rw [hL] at hlen2 hl2 ⊢
    have hI2:=hI.ext hf2.1
    have hf3:=(hf2.set (i:=H.length+2) (b:=B2) (by omega)).app (T:=[⟨.cells [.int .i64 (planK j),.int .i64 ((i:Int)+1),.int .i64 (planT j)] 266 false false,0⟩])
    have hI3:Ints (H2.set (H.length+2) B2++[⟨.cells [.int .i64 (planK j),.int .i64 ((i:Int)+1),.int .i64 (planT j)] 266 false false,0⟩]) v l:=hI.ext hf3.1
    obtain ⟨-,k0,k1,k2,k3⟩:=hf3
    have kb:=planK_bd (j:=j)
    have tb:=planT_bd (j:=j) (by omega)
    have f1:=fun base=>run_first1 (base:=base) (k:=(planK j).toNat) (n:=i+1) (s:=(planT j).toNat) hI3 ok (by omega) (by omega) (by omega)
    rw [show (((planK j).toNat:Nat):Int)=planK j by omega,show (((planT j).toNat:Nat):Int)=planT j by omega,show (((i+1:Nat)):Int)=(i:Int)+1 by omega] at f1
    cases c:(fstS w l (planK j).toNat (i+1) (planT j).toNat).2.2 with
    | false =>
     rw [c] at f1
     have hsp:=@Nat.succ_ne_zero;repeat' (first|simp (disch:=first|exact dqb|fail) only [go_sem,hsp,r1,r2,r3,r4,k0,k3]|refine WP_drw ?_|refine cnd_intro (fun hsp=>?_) fun hsp=>?_)
     refine ⟨hl2,?_⟩
     have hlt:=lt_of_get hl2
     have hsp:=@Nat.succ_ne_zero;repeat' (first|simp (disch:=first|exact dqb|fail) only [go_sem,hsp,r1,r2,r3,r4,k0,k3,z3,f1]|refine WP_drw ?_|refine cnd_intro (fun hsp=>?_) fun hsp=>?_)
     refine ⟨fun q x hq hx=>?_,.inr ⟨(fun hh=>by cases hh),j,?_,?_⟩⟩
     ·rw [get_app]
      rw [get_set_ne (by omega),get_set_ne (by omega)]
      exact hx
     ·exact fndI_some hj (by unfold okP;rw [c];rfl) hno2
     ·exact (hf2.set (i:=H.length+2) (b:=B2) (by omega)).out.app
    | true =>
     rw [c] at f1
     have hsp:=@Nat.succ_ne_zero;repeat' (first|simp (disch:=first|exact dqb|fail) only [go_sem,hsp,r1,r2,r3,r4,k0,k3]|refine WP_drw ?_|refine cnd_intro (fun hsp=>?_) fun hsp=>?_)
     refine ⟨hl2,?_⟩
     have hlt:=lt_of_get hl2
     have hsp:=@Nat.succ_ne_zero;repeat' (first|simp (disch:=first|exact dqb|fail) only [go_sem,hsp,r1,r2,r3,r4,k0,k3,z3,f1]|refine WP_drw ?_|refine cnd_intro (fun hsp=>?_) fun hsp=>?_)
     refine ⟨fun q x hq hx=>?_,.inl ⟨(hf2.set (i:=H.length+2) (b:=B2) (by omega)).app,hc2,hd2,fun t ht=>?_⟩⟩
     ·rw [get_app]
      rw [get_set_ne (by omega)]
      exact hx
     ·by_cases e:t=j
      ·subst e
       unfold okP
       rw [c];rfl
      ·exact hno2 t (by omega)
   ·rintro H2 ⟨hf2,hc2,hd2,hno2⟩
    have hsp:=@Nat.succ_ne_zero;repeat' (first|simp (disch:=first|exact dqb|fail) only [go_sem,hsp,r16,r15,r1,r2,r3,r4]|refine WP_drw ?_|refine cnd_intro (fun hsp=>?_) fun hsp=>?_)
    refine ⟨⟨i+1,by omega,by simp,hf2,fun j hj=>?_⟩,by omega⟩
    by_cases e:j=i
    ·subst e
     unfold fewJ
     rw [fndI_none fun t ht=>hno2 t ht]
     rfl
    ·exact hno j (by omega)
   ·rintro e H2 he ⟨rfl,j,h1,h2⟩
    obtain ⟨hE2,k0,k1,k2,k3⟩:=h2
    have hz:(planK j=0∧(i:Int)+1=0∧planT j=0)=False:=eq_false (by omega)
    have hlt:=lt_of_get k1
    have hsp:=@Nat.succ_ne_zero;repeat' (first|simp (disch:=first|exact dqb|fail) only [go_sem,hsp,r1,r2,r3,r4,k1,k2,k3,z3,hz]|refine WP_drw ?_|refine cnd_intro (fun hsp=>?_) fun hsp=>?_)
    have hfs:fewestS w l=(planK j,(i:Int)+1,planT j):=by
     unfold fewestS fewN
     rw [fndI_some (t:=i) hil (by rw [h1];rfl) (fun m hm=>hno m hm)]
     simp only [h1]
    rw [hfs]
    exact fin_pl rfl rfl (hE2.set (by omega))
  ·exfalso
   obtain ⟨m,j,h1,h2⟩:=fewN_some ok
   have:=(fndI_is h1).1
   have h3:=hno m (by omega)
   rw [h2] at h3
   cases h3
end L3
end Go.AM
namespace Go.AM
namespace L3
open Go.Proofs.Tryz
attribute [-go_sem] put_ne put_same
attribute [local go_sem ↓] put_if
theorem few_bd {w:Nat} {l:List Int} (ok:PapOk w l):1≤(fewestS w l).2.1∧(fewestS w l).2.1≤l.length:=by
 obtain ⟨m,j,h1,h2⟩:=fewN_some ok
 have hm:=(fndI_is h1).1
 have:fewestS w l=(planK j,(m:Int)+1,planT j):=by
  unfold fewestS
  rw [h1]
  simp only [h2]
 rw [this]
 dsimp only;omega
theorem pap_small {w:Nat} {l:List Int} (ok:PapOk w l):Small l:=by
 have hw:=ok.hw
 have hn:=ok.hn
 have hp:2 ^ w≤256:=by have:=Nat.pow_le_pow_right (show 0<2 by decide) hw.2;simpa using this
 exact ⟨by omega,fun x hx=>by have:=ok.hc x hx;omega⟩
theorem nil_of_nilB {h:Heap} {v:AVal} {l:List Int} (hI:Ints h v l) (hl:l ≠ []):nilB v=false:=by
 cases hn:nilB v with
 | false=>rfl
 | true=>exact absurd (hI.nilB_nil hn).2 hl
theorem run_FewestC {base:Nat} {h:Heap} {v:AVal} {l:List Int} {w:Nat} (hI:Ints h v l) (ok:PapOk w l) :
  ∃ (k s:Int) (c:Nat),(c:Int)=(fewestS w l).2.1∧callL prog raw base (.fn 51 [] []) [papV (w:Int) v] h=some (.tuple [chV (w:Int) (.slice (some ⟨h.length,0,0⟩) c c) k s,.int .i64 0],h++[rowB (l.take c) 0]):=by
 have ov:=hI.one
 obtain ⟨b1,b2⟩:=few_bd ok
 obtain ⟨k,n,s,ef⟩:∃ k n s,fewestS w l=(k,n,s):=⟨_,_,_,rfl⟩
 rw [ef] at b1 b2
 obtain ⟨c,ec⟩:=Int.eq_ofNat_of_zero_le (show 0≤n by dsimp only at b1;omega)
 subst ec
 dsimp only at b1 b2
 have hcl:(l.take c).length=c:=by rw [List.length_take];omega
 have hne:l.take c ≠ []:=fun q=>by rw [q] at hcl;simp at hcl;omega
 have hs:=pap_small ok
 have hts:Small (l.take c):=⟨by rw [hcl];have:=hs.1;omega,fun x hx=>hs.2 x (List.mem_of_mem_take hx)⟩
 obtain ⟨A,eA⟩:∃ A,A=h++[paB (w:Int) v]++[⟨.cells [.int .i64 0,.slice none 0 0,.int .i64 0,.int .i64 0] 50 false false,0⟩]:=⟨_,rfl⟩
 have xA:Ext h A:=by rw [eA];exact .app (.app .refl)
 have lA:A.length=h.length+2:=by rw [eA];simp
 have ga:A[h.length]?=some (paB (w:Int) v):=by rw [eA];exact get_app (get_eq rfl)
 have gc:A[h.length+1]?=some ⟨.cells [.int .i64 0,.slice none 0 0,.int .i64 0,.int .i64 0] 50 false false,0⟩:=by rw [eA];exact get_eq (by simp)
 have ck:=fun base=>run_checkP (base:=base) (hI.ext xA) ok
 have fw:=fun base=>run_fewestQ (base:=base) (hI.ext xA) ok
 rw [ef] at fw
 obtain ⟨B,eB⟩:∃ B,B=A++[plB k (c:Int) s]:=⟨_,rfl⟩
 have xB:Ext A B:=by rw [eB];exact .app .refl
 have lB':B.length=h.length+3:=by rw [eB];simp [lA]
 have gb:B[A.length]?=some (plB k (c:Int) s):=by rw [eB];exact get_eq rfl
 have ga2:=xB.get ga
 have gc2:=xB.get gc
 have iB2:=(hI.ext xA).ext xB
 have sl:sliceA prog 35 v none (some (.int .i64 (c:Int))) none=some (slcV v 0 c):=by
  have:=sl_hi (P:=prog) (n:=(c:Int)) Fc.el35 Fc.ar35 (by omega) hI (by omega)
  rwa [Int.toNat_natCast] at this
 have iS:=Ints.slc iB2 (Nat.zero_le 0) (show 0≤l.length by omega)
 have iS:=Ints.slc iB2 (Nat.zero_le c) (show c≤l.length by omega)
 rw [List.drop_zero] at iS
 have cl:=fun base=>run_clone (base:=base) iS hts
 rw [cloneV,cloneH,nil_of_nilB iS hne] at cl
 simp only [Bool.false_eq_true,if_false,newV_ne hne,newH_ne hne,hcl] at cl
 refine ⟨k,s,c,by rw [ef],?_⟩
 refine callL_run func51 rfl rfl ?_
 have hsp:=@Nat.succ_ne_zero;repeat' (first|simp (disch:=first|exact dqb|fail) only [go_sem,↓reduceIte,hsp,← eA,ga,ck,neB,ne_eq,eq_self,not_true,decide_false,fw,← eB,gb,ga2,gc2,sl,cl]|refine WP_drw ?_|refine cnd_intro (fun hsp=>?_) fun hsp=>?_)
 have hxt:Ext h (B.set (h.length+1) ⟨.cells [.int .i64 (w:Int),.slice (some ⟨B.length,0,0⟩) c c,.int .i64 k,.int .i64 s] 50 false false,0⟩++[rowB (l.take c) 0]):=((xA.trans xB).set (by omega)).app
 have hb:(B.set (h.length+1) ⟨.cells [.int .i64 (w:Int),.slice (some ⟨B.length,0,0⟩) c c,.int .i64 k,.int .i64 s] 50 false false,0⟩++[rowB (l.take c) 0])[h.length+3]?=some (rowB (l.take c) 0):=get_eq (by simp [lB'])
 have:=fin_nw (h:=h) (f:=fun x=>.tuple [.agg [.int .i64 (w:Int),x,.int .i64 k,.int .i64 s],.int .i64 0]) (l:=l.take c) (j:=3) (fun x=>by simp [AVal.refs,refsL]) (fun g x=>by simp [AVal.ren,renL]) hne hxt hb rfl rfl
 rw [newV_ne hne,newH_ne hne,hcl,← lB'] at this
 exact this
end L3
end Go.AM
namespace Go.AM
namespace L3
open Go.Proofs.Tryz
attribute [-go_sem] put_ne put_same
attribute [local go_sem ↓] put_if
end L3
end Go.AM
namespace Go.AM
open Go.Proofs.Tryz
attribute [-go_sem] put_ne put_same
attribute [local go_sem ↓] put_if
theorem few8:(L3.fewestS 4 [1,2,4,8,1,2]).2.1=1:=by decide +kernel
theorem pap8:L3.PapOk 4 [1,2,4,8,1,2]:=⟨by decide,by decide,by unfold L3.Crds;decide⟩
end Go.AM
namespace Go.AM
open Go.Proofs.Tryz
attribute [-go_sem] put_ne put_same
attribute [local go_sem ↓] put_if
def samT (c d:Int × Int):Bool:=decide (c.1=d.1∧c.2=d.2)
end Go.AM
namespace Go.AM
open Go.Proofs.Tryz
attribute [-go_sem] put_ne put_same
attribute [local go_sem ↓] put_if
theorem run_egr {base:Nat} {h:Heap} {n x:Int} {v:AVal} (hI:Ints h v [x]):callL prog raw base (.fn 294 [] []) [.int .i64 n,v] h=some (.int .i64 (max n x),h):=by
 have hlen:=lenI hI
 have hov:=hI.one
 have a0:=adrI (i:=0) (by omega) hI (by simp)
 have l0:=loadI hI (i:=0) (by simp)
 have l0:loadP prog h 3 (elAddr v (0:Int).toNat)=some (.int .i64 x):=l0
 have e1:(([x]:List Int).length:Int)=1:=rfl
 have t1:((0:Int)<1)=True:=eq_true (by omega)
 have t2:((1:Int)<1)=False:=eq_false (by omega)
 rw [e1] at hlen
 refine callL_run func294 rfl rfl ?_
 have hsp:=@Nat.succ_ne_zero;repeat' (first|simp (disch:=first|exact dqb|fail) only [go_sem,↓reduceIte,hsp,hlen]|refine WP_drw ?_|refine cnd_intro (fun hsp=>?_) fun hsp=>?_)
 rw [WP_loop1]
 have hsp:=@Nat.succ_ne_zero;repeat' (first|simp (disch:=first|exact dqb|fail) only [go_sem,↓reduceIte,hsp,hlen,t1,a0,l0]|refine WP_drw ?_|refine cnd_intro (fun hsp=>?_) fun hsp=>?_)
 rw [WP_loop1]
 have hsp:=@Nat.succ_ne_zero;repeat' (first|simp (disch:=first|exact dqb|fail) only [go_sem,↓reduceIte,hsp,t2]|refine WP_drw ?_|refine cnd_intro (fun hsp=>?_) fun hsp=>?_)
 exact fI rfl
abbrev Shd:=Int × Int × Int
def enc3:Enc Shd:=⟨3,fun s=>[.int .i64 s.1,.int .i64 s.2.1,.int .i64 s.2.2],fun _=>rfl,by decide⟩
def encE:Enc (Shd × Int):=⟨4,fun s=>[.int .i64 s.1.1,.int .i64 s.1.2.1,.int .i64 s.1.2.2,.int .i64 s.2],fun _=>rfl,by decide⟩
structure EyT where
 E:List (Shd × Int)
 L:List Shd
 P:List Shd
abbrev eyB (ev lv pv:AVal):ABlk:=⟨.cells [ev,lv,pv] 249 false false,0⟩
def EDk (H:Heap) (id:Nat) (T:EyT):Prop:=∃ ev lv pv,H[id]?=some (eyB ev lv pv)∧Rows encE H ev T.E∧Rows enc3 H lv T.L∧Rows enc3 H pv T.P
theorem EDk.ext {H H':Heap} {id:Nat} {T:EyT} (x:EDk H id T) (e:Ext H H'):EDk H' id T:=by
 obtain ⟨ev,lv,pv,g,a,b,c⟩:=x
 exact ⟨ev,lv,pv,e.get g,a.ext e,b.ext e,c.ext e⟩
def absd (x y:Int):Int:=max (x-y) (y-x)
def seeD (w l a b:Shd):Int:=absd a.1 b.1 * w.1 * l.1+absd a.2.1 b.2.1 * w.2.1 * l.2.1+absd a.2.2 b.2.2 * w.2.2 * l.2.2
end Go.AM
namespace Go.AM
open Go.Proofs.Tryz
attribute [-go_sem] put_ne put_same
attribute [local go_sem ↓] put_if
theorem Rows.aggAt {α:Type} {E:Enc α} {P:Program} {h:Heap} {v:AVal} {l:List α} {t:TypeId} (hR:Rows E h v l) {n:Nat} (ht:tyA P t=some (true,n)) {i o:Nat} {x:α} (hx:l[i]?=some x) (ho:o+n≤E.z):loadP P h t (elAdr v E.z i o)=some (.agg (((E.cells x).drop o).take n)):=by
 have hi:=(List.getElem?_eq_some_iff.1 hx).1
 rcases hR.2 with ⟨rfl,rfl⟩|⟨rfl,rfl⟩|⟨r,k,c,e,row,ro,rfl,h2,h3,h4,_⟩
 ·simp at hi
 ·simp at hi
 ·have hle:i * E.z+E.z≤l.length * E.z:=by rw [← Nat.succ_mul];exact Nat.mul_le_mul_right _ hi
  have hg:=flat_get E hx
  rw [← h3,List.drop_take,List.take_take,List.drop_drop,Nat.min_eq_left (by omega)] at hg
  simp only [loadP,elAdr,loadA,ht,loadN,cellsAt,ARef.add,h2,if_true]
  rw [if_pos (show r.off+(i * E.z+o)+n≤c.length by omega)]
  simp only [Option.bind_some,mkVal,if_true]
  rw [← hg,List.drop_take,List.take_take,List.drop_drop,Nat.min_eq_left (by omega),Nat.add_assoc]
abbrev shV (s:Shd):AVal:=.agg [.int .i64 s.1,.int .i64 s.2.1,.int .i64 s.2.2]
theorem sh_eq {a b:Shd}:binA prog .eql 128 (shV a) (shV b)=some (.bool (decide (a=b))):=by
 obtain ⟨a1,a2,a3⟩:=a
 obtain ⟨b1,b2,b3⟩:=b
 have h1:prog.eqGuardType prog.depth 128=false:=by kernel_rfl
 have h2:prog.underlying 128=some (.array 3 3):=by kernel_rfl
 have h3:prog.underlying 3=some (.int .i64):=by kernel_rfl
 have h4:List.range 3=[0,1,2]:=rfl
 simp only [binA,eqDepth,eqT,h1,h2,h3,h4,Fc.ty3,partQ,List.foldr,Prod.mk.injEq]
 by_cases c1:a1=b1<;>by_cases c2:a2=b2<;>by_cases c3:a3=b3<;>simp [c1,c2,c3]
end Go.AM
namespace Go.AM
open Go.Proofs.Tryz
attribute [-go_sem] put_ne put_same
attribute [local go_sem ↓] put_if
def shIn (m:Int) (s:Shd):Prop:=(0≤s.1∧s.1≤m)∧(0≤s.2.1∧s.2.1≤m)∧0≤s.2.2∧s.2.2≤m
structure TOk (T:EyT):Prop where
 nE:1≤T.E.length∧T.E.length≤6
 nL:1≤T.L.length∧T.L.length≤4
 nP:T.P.length≤9
 E:∀ x ∈ T.E,shIn 4 x.1∧1≤x.2∧x.2≤400
 L:∀ x ∈ T.L,shIn 3 x
 P:∀ x ∈ T.P,shIn 20 x
theorem elAdr_arr {α:Type} {E:Enc α} {P:Program} {h:Heap} {v:AVal} {l:List α} {t:TypeId} {i o n z:Nat} {q:Bool} {j:Int} (hR:Rows E h v l) (hi:i<l.length) (ha:arT P t=some (n,q,z)) (h0:0≤j) (h1:j<n):indexAddrA P t (elAdr v E.z i o) (.int .i64 j)=some (elAdr v E.z i (o+j.toNat * z)):=by
 rcases hR.2 with ⟨rfl,rfl⟩|⟨rfl,rfl⟩|⟨r,k,c,e,row,ro,rfl,h2,h3,h4,_⟩
 ·simp at hi
 ·simp at hi
 ·simp [indexAddrA,ha,elAdr,h0,h1,ARef.add,Nat.add_assoc]
theorem mul_in {t:TypeId} {a b:Int} (h:0≤a * b∧a * b≤1000000):binA prog .mul t (.int .i64 a) (.int .i64 b)=some (.int .i64 (a * b)):=by
 rw [bin_mul];congr 2
 exact wrap64 (by omega) (by omega)
theorem mul_bd {a b m n:Int} (ha:0≤a∧a≤m) (hb:0≤b∧b≤n):0≤a * b∧a * b≤m * n:=⟨Int.mul_nonneg ha.1 hb.1,Int.mul_le_mul ha.2 hb.2 hb.1 (by omega)⟩
theorem absd_bd {a b:Int} (ha:0≤a∧a≤20) (hb:0≤b∧b≤20):0≤absd a b∧absd a b≤20:=by unfold absd;omega
theorem ix3 {x y z:AVal}:indexA prog 128 (.agg [x,y,z]) (.int .i64 0)=some x∧indexA prog 128 (.agg [x,y,z]) (.int .i64 1)=some y∧indexA prog 128 (.agg [x,y,z]) (.int .i64 2)=some z:=by
 refine ⟨?_,?_,?_⟩<;>simp [indexA,Fc.ar128,partQ]
set_option maxHeartbeats 2000000 in
theorem run_sees {base:Nat} {h:Heap} {id:Nat} {T:EyT} {i k:Nat} {a b:Shd} (hD:EDk h id T) (ok:TOk T) (hi:i<T.E.length) (hk:k<T.L.length) (ha:shIn 20 a) (hb:shIn 20 b) :
  callL prog raw base (.fn 285 [] []) [.ptr (some ⟨id,0,0⟩),.agg [.int .i64 (i:Int),.int .i64 (k:Int)],shV a,shV b] h=some (.int .i64 (seeD T.E[i].1 T.L[k] a b),h):=by
 obtain ⟨ev,lv,pv,g,hE,hL,hP⟩:=hD
 obtain ⟨w,ew⟩:∃ w,w=T.E[i].1:=⟨_,rfl⟩
 obtain ⟨f,ef⟩:∃ f,f=T.E[i].2:=⟨_,rfl⟩
 obtain ⟨l,el⟩:∃ l,l=T.L[k]:=⟨_,rfl⟩
 have hw:shIn 4 w:=by rw [ew];exact (ok.E _ (List.getElem_mem hi)).1
 have hl:shIn 3 l:=by rw [el];exact ok.L _ (List.getElem_mem hk)
 have xE:T.E[i]?=some (w,f):=by rw [List.getElem?_eq_getElem hi,ew,ef]
 have xL:T.L[k]?=some l:=by rw [List.getElem?_eq_getElem hk,el]
 rw [← ew,← el]
 obtain ⟨w0,w1,w2⟩:=w
 obtain ⟨l0,l1,l2⟩:=l
 obtain ⟨a0,a1,a2⟩:=a
 obtain ⟨b0,b1,b2⟩:=b
 obtain ⟨hw0,hw1,hw2⟩:=hw
 obtain ⟨hl0,hl1,hl2⟩:=hl
 obtain ⟨ha0,ha1,ha2⟩:=ha
 obtain ⟨hb0,hb1,hb2⟩:=hb
 simp only at hw0 hw1 hw2 hl0 hl1 hl2 ha0 ha1 ha2 hb0 hb1 hb2
 have oE:=hE.one
 have oL:=hL.one
 have aE:=hE.addr (P:=prog) (i:=(i:Int)) Fc.el23 Fc.ar23 (by omega) (by omega)
 rw [Int.toNat_natCast] at aE
 have fE:fieldAddrA prog 131 (elAdr ev encE.z i 0) 0=some (elAdr ev encE.z i 0):=elAdr_field (P:=prog) (o:=0) (off:=0) (q:=true) (n:=3) hE hi (by kernel_rfl) (by decide)
 obtain ⟨G,eG⟩:∃ G,G=h++[(⟨.cells [.int .i64 (i:Int),.int .i64 (k:Int)] 376 false false,0⟩:ABlk)]++[⟨.cells [.int .i64 a0,.int .i64 a1,.int .i64 a2] 128 false false,0⟩]++[⟨.cells [.int .i64 b0,.int .i64 b1,.int .i64 b2] 128 false false,0⟩]:=⟨_,rfl⟩
 have x0:Ext h G:=by rw [eG];exact .app (.app (.app .refl))
 have g0:G[h.length]?=some ⟨.cells [.int .i64 (i:Int),.int .i64 (k:Int)] 376 false false,0⟩:=by rw [eG];exact get_app (get_app (get_eq rfl))
 have ga:G[h.length+1]?=some ⟨.cells [.int .i64 a0,.int .i64 a1,.int .i64 a2] 128 false false,0⟩:=by rw [eG];exact get_app (get_eq (by simp))
 have gb:G[h.length+1+1]?=some ⟨.cells [.int .i64 b0,.int .i64 b1,.int .i64 b2] 128 false false,0⟩:=by rw [eG];exact get_eq (by simp)
 unfold eyB at g
 have gi:=x0.get g
 obtain ⟨G1,eG1⟩:∃ G1,G1=G++[rowB [b0-a0] 0]:=⟨_,rfl⟩
 obtain ⟨G2,eG2⟩:∃ G2,G2=G1++[rowB [b1-a1] 0]:=⟨_,rfl⟩
 obtain ⟨G3,eG3⟩:∃ G3,G3=G2++[rowB [b2-a2] 0]:=⟨_,rfl⟩
 have x1:Ext G G1:=by rw [eG1];exact .app .refl
 have x2:Ext G1 G2:=by rw [eG2];exact .app .refl
 have x3:Ext G2 G3:=by rw [eG3];exact .app .refl
 have gi1:=x1.get gi
 have gi2:=x2.get gi1
 have gi3:=x3.get gi2
 have g01:=x1.get g0
 have g02:=x2.get g01
 have g03:=x3.get g02
 have ga1:=x1.get ga
 have ga2:=x2.get ga1
 have gb1:=x1.get gb
 have gb2:=x2.get gb1
 have lE:loadP prog G 128 (elAdr ev encE.z i 0)=some (.agg [.int .i64 w0,.int .i64 w1,.int .i64 w2]):=(hE.ext x0).aggAt Fc.ty128 xE (by decide)
 have aL:=hL.addr (P:=prog) (i:=(k:Int)) Fc.el24 Fc.ar24 (by omega) (by omega)
 rw [Int.toNat_natCast] at aL
 have aL0:indexAddrA prog 133 (elAdr lv enc3.z k 0) (.int .i64 0)=some (elAdr lv enc3.z k 0):=elAdr_arr (j:=0) hL hk Fc.ar133 (by omega) (by omega)
 have aL1:indexAddrA prog 133 (elAdr lv enc3.z k 0) (.int .i64 1)=some (elAdr lv enc3.z k 1):=elAdr_arr (j:=1) hL hk Fc.ar133 (by omega) (by omega)
 have aL2:indexAddrA prog 133 (elAdr lv enc3.z k 0) (.int .i64 2)=some (elAdr lv enc3.z k 2):=elAdr_arr (j:=2) hL hk Fc.ar133 (by omega) (by omega)
 have lL0:loadP prog G1 3 (elAdr lv enc3.z k 0)=some (.int .i64 l0):=(hL.ext (x0.trans x1)).cell Fc.ty3 xL rfl
 have lL1:loadP prog G2 3 (elAdr lv enc3.z k 1)=some (.int .i64 l1):=(hL.ext ((x0.trans x1).trans x2)).cell Fc.ty3 xL rfl
 have lL2:loadP prog G3 3 (elAdr lv enc3.z k 2)=some (.int .i64 l2):=(hL.ext (((x0.trans x1).trans x2).trans x3)).cell Fc.ty3 xL rfl
 have d0:=absd_bd ha0 hb0
 have d1:=absd_bd ha1 hb1
 have d2:=absd_bd ha2 hb2
 have e0:=mul_bd d0 hw0
 have e1:=mul_bd d1 hw1
 have e2:=mul_bd d2 hw2
 have f0:=mul_bd e0 hl0
 have f1:=mul_bd e1 hl1
 have f2:=mul_bd e2 hl2
 have m0:=fun t=>mul_in (t:=t) (a:=absd a0 b0) (b:=w0) (by omega)
 have m1:=fun t=>mul_in (t:=t) (a:=absd a1 b1) (b:=w1) (by omega)
 have m2:=fun t=>mul_in (t:=t) (a:=absd a2 b2) (b:=w2) (by omega)
 have n0:=fun t=>mul_in (t:=t) (a:=absd a0 b0 * w0) (b:=l0) (by omega)
 have n1:=fun t=>mul_in (t:=t) (a:=absd a1 b1 * w1) (b:=l1) (by omega)
 have n2:=fun t=>mul_in (t:=t) (a:=absd a2 b2 * w2) (b:=l2) (by omega)
 have gr:∀ {base:Nat} {H K:Heap} {x y:Int},K=H++[rowB [y-x] 0]→(-1000≤y-x∧y-x≤1000)→callL prog raw base (.fn 294 [] []) [.int .i64 (x-y),.slice (some ⟨H.length,0,0⟩) 1 1] K=some (.int .i64 (absd x y),K):=fun {base H K x y} e hh=>by
  subst e
  exact run_egr (base:=base) (n:=x-y) (slice_row (A:=H) (n:=H.length) (k:=1) (l:=[y-x]) rfl rfl ⟨by simp,fun z hz=>by rw [List.mem_singleton] at hz;omega⟩)
 have r0:=fun base=>gr (base:=base) eG1 (by omega)
 have r1:=fun base=>gr (base:=base) eG2 (by omega)
 have r2:=fun base=>gr (base:=base) eG3 (by omega)
 have t0:((0:Int)<3)=True:=eq_true (by omega)
 have t1:((1:Int)<3)=True:=eq_true (by omega)
 have t2:((2:Int)<3)=True:=eq_true (by omega)
 have t3:((3:Int)<3)=False:=eq_false (by omega)
 unfold seeD
 simp only
 refine callL_run func285 rfl rfl ?_
 have hsp:=@Nat.succ_ne_zero;repeat' (first|simp (disch:=first|exact dqb|fail) only [go_sem,↓reduceIte,hsp,← eG,g0,gi,aE,fE,lE]|refine WP_drw ?_|refine cnd_intro (fun hsp=>?_) fun hsp=>?_)
 rw [WP_loop1]
 have hsp:=@Nat.succ_ne_zero;repeat' (first|simp (disch:=first|exact dqb|fail) only [go_sem,↓reduceIte,hsp,g0,gi,ga,gb,t0,ix3.1,ix3.2.1,ix3.2.2,bsrI,← eG1,r0,g01,gi1,aL,aL0,lL0,m0,n0]|refine WP_drw ?_|refine cnd_intro (fun hsp=>?_) fun hsp=>?_)
 rw [WP_loop1]
 have hsp:=@Nat.succ_ne_zero;repeat' (first|simp (disch:=first|exact dqb|fail) only [go_sem,↓reduceIte,hsp,g01,gi1,ga1,gb1,t1,ix3.1,ix3.2.1,ix3.2.2,bsrI,← eG2,r1,g02,gi2,aL,aL1,lL1,m1,n1]|refine WP_drw ?_|refine cnd_intro (fun hsp=>?_) fun hsp=>?_)
 rw [WP_loop1]
 have hsp:=@Nat.succ_ne_zero;repeat' (first|simp (disch:=first|exact dqb|fail) only [go_sem,↓reduceIte,hsp,g02,gi2,ga2,gb2,t2,ix3.1,ix3.2.1,ix3.2.2,bsrI,← eG3,r2,g03,gi3,aL,aL2,lL2,m2,n2]|refine WP_drw ?_|refine cnd_intro (fun hsp=>?_) fun hsp=>?_)
 rw [WP_loop1]
 have hsp:=@Nat.succ_ne_zero;repeat' (first|simp (disch:=first|exact dqb|fail) only [go_sem,↓reduceIte,hsp,t3]|refine WP_drw ?_|refine cnd_intro (fun hsp=>?_) fun hsp=>?_)
 exact fI (by rw [Int.zero_add]) (x0.trans ((x1.trans x2).trans x3))
end Go.AM
namespace Go.AM
open Go.Proofs.Tryz
attribute [-go_sem] put_ne put_same
attribute [local go_sem ↓] put_if
theorem idxF_YE {base:Nat} {h:Heap} {v g:AVal} {l:List ((Shd × Int))} (p:(Shd × Int)→Bool) (hR:Rows encE h v l) (hg:∀ base x,x ∈ l→callL prog raw base g [.agg (encE.cells x)] h=some (.bool (p x),h)) :
  callL prog raw base (.fn 281 [] []) [v,g] h=some (.int .i64 (idx p l),h):=by
 have hb:l.length<2 ^ 60:=hR.1
 refine callL_run func281 rfl rfl ?_
 have hsp:=@Nat.succ_ne_zero;repeat' (first|simp (disch:=first|exact dqb|fail) only [go_sem,↓reduceIte,hsp,hR.len Fc.el23]|refine WP_drw ?_|refine cnd_intro (fun hsp=>?_) fun hsp=>?_)
 refine WP_loop (fun σ=>∃ n:Nat,σ.fr 8=.int .i64 (n:Int)∧σ.fr 0=v∧σ.fr 1=g∧σ.fr 7=.int .i64 (l.length:Int)∧σ.h=h∧n≤l.length∧(∀ x ∈ l.take n,p x=false)) (fun σ=>match σ.fr 8 with|.int _ x=>(((l.length:Nat):Int)-x).toNat|_=>0) ?_ ?_
 ·refine ⟨0,?_,?_,?_,?_,?_,by omega,?_⟩
  iterate 5 focus (first|rfl|(simp (disch:=first|exact dqb|fail) only [go_sem,↓reduceIte,Int.natCast_zero];first|done|rfl))
  intro x hx;simp at hx
 ·rintro ⟨fr,hp⟩ ⟨n,r8,r0,r1,r7,rh,hi,hP⟩
  dsimp only at r8 r0 r1 r7 rh hi hP
  subst rh
  by_cases hn:n<l.length
  ·have hlt:((n:Int)<(l.length:Int))=True:=eq_true (by omega)
   have hx:l[n]?=some l[n]:=List.getElem?_eq_getElem hn
   have had:=hR.addr (i:=(n:Int)) Fc.el23 Fc.ar23 (by omega) (by omega)
   rw [Int.toNat_natCast] at had
   have hld:=hR.load Fc.ty131 hx
   have hc:=fun base=>hg base l[n] (List.getElem_mem hn)
   cases hp:p l[n] with
   | true =>
    rw [hp] at hc
    have hsp:=@Nat.succ_ne_zero;repeat' (first|simp (disch:=first|exact dqb|fail) only [go_sem,↓reduceIte,hsp,r8,r0,r1,r7,hlt,had,hld,hc]|refine WP_drw ?_|refine cnd_intro (fun hsp=>?_) fun hsp=>?_)
    rw [idx_hit p hn hP hp]
    all_goals (first|refine fI ?_|refine fB ?_|refine fII ?_ ?_|refine fBI ?_ ?_|refine fIII ?_ ?_ ?_|refine fIIB ?_ ?_ ?_|skip);all_goals (try dsimp only);all_goals (try with_reducible rfl);all_goals (try omega)
   | false =>
    rw [hp] at hc
    have hsp:=@Nat.succ_ne_zero;repeat' (first|simp (disch:=first|exact dqb|fail) only [go_sem,↓reduceIte,hsp,r8,r0,r1,r7,hlt,had,hld,hc]|refine WP_drw ?_|refine cnd_intro (fun hsp=>?_) fun hsp=>?_)
    exact ⟨⟨n+1,by simp,by omega,take_next p hn hP hp⟩,by omega⟩
  ·have hlt:((n:Int)<(l.length:Int))=False:=eq_false (by omega)
   obtain rfl:n=l.length:=by omega
   have hsp:=@Nat.succ_ne_zero;repeat' (first|simp (disch:=first|exact dqb|fail) only [go_sem,↓reduceIte,hsp,r8,r0,r1,r7,hlt]|refine WP_drw ?_|refine cnd_intro (fun hsp=>?_) fun hsp=>?_)
   rw [idx_miss p hP]
   all_goals (first|refine fI ?_|refine fB ?_|refine fII ?_ ?_|refine fBI ?_ ?_|refine fIII ?_ ?_ ?_|refine fIIB ?_ ?_ ?_|skip);all_goals (try dsimp only);all_goals (try with_reducible rfl);all_goals (try omega)
theorem anyF_YE {base:Nat} {h:Heap} {v g:AVal} {l:List ((Shd × Int))} (p:(Shd × Int)→Bool) (hR:Rows encE h v l) (hg:∀ base x,x ∈ l→callL prog raw base g [.agg (encE.cells x)] h=some (.bool (p x),h)) :
  callL prog raw base (.fn 245 [] []) [v,g] h=some (.bool (l.any p),h):=by
 have hi:=fun base=>idxF_YE (base:=base) p hR hg
 have h0:=idx_any p l
 refine callL_run func245 rfl rfl ?_
 have hsp:=@Nat.succ_ne_zero;repeat' (first|simp (disch:=first|exact dqb|fail) only [go_sem,↓reduceIte,hsp,hi]|refine WP_drw ?_|refine cnd_intro (fun hsp=>?_) fun hsp=>?_)
 refine fB ?_
 by_cases h1:l.any p=true
 ·rw [h1];simpa using h0.2 h1
 ·have h2:¬ 0≤idx p l:=fun h=>h1 (h0.1 h)
  simp only [Bool.not_eq_true] at h1
  rw [h1];simpa using h2
theorem not_YE {base id:Nat} {h:Heap} {g:AVal} {x:(Shd × Int)} {b:Bool} (hid:h[id]?=some ⟨.cells [g] 306 false false,0⟩) (hg:∀ base T,callL prog raw base g [.agg (encE.cells x)] (h++T)=some (.bool b,h++T)) :
  callL prog raw base (.fn 246 [] [.ptr (some ⟨id,0,0⟩)]) [.agg (encE.cells x)] h=some (.bool (!b),h):=by
 have hgi:=lt_of_get hid
 simp only [encE] at hg ⊢
 refine callL_run func246 rfl rfl ?_
 have hsp:=@Nat.succ_ne_zero;repeat' (first|simp (disch:=first|exact dqb|fail) only [go_sem,↓reduceIte,hsp,hid,hg]|refine WP_drw ?_|refine cnd_intro (fun hsp=>?_) fun hsp=>?_)
 exact fB rfl
theorem every_YE {base:Nat} {h:Heap} {v g:AVal} {l:List ((Shd × Int))} (p:(Shd × Int)→Bool) (hR:Rows encE h v l) (hg:∀ base T x,x ∈ l→callL prog raw base g [.agg (encE.cells x)] (h++T)=some (.bool (p x),h++T)) (h1:One g) :
  callL prog raw base (.fn 189 [] []) [v,g] h=some (.bool (l.all p),h):=by
 have hc:=fun base=>anyF_YE (base:=base) (fun x=>!p x) hR.app (fun base x hx=>not_YE (x:=x) (get_eq rfl) (fun base T=>by have:=hg base ([⟨.cells [g] 306 false false,0⟩]++T) x hx;rwa [← List.append_assoc] at this))
 refine callL_run func189 rfl rfl ?_
 have hsp:=@Nat.succ_ne_zero;repeat' (first|simp (disch:=first|exact dqb|fail) only [go_sem,↓reduceIte,hsp,hc]|refine WP_drw ?_|refine cnd_intro (fun hsp=>?_) fun hsp=>?_)
 refine fB ?_
 rw [List.any_eq_not_all_not]
 simp
theorem idxF_YL {base:Nat} {h:Heap} {v g:AVal} {l:List (Shd)} (p:Shd→Bool) (hR:Rows enc3 h v l) (hg:∀ base x,x ∈ l→callL prog raw base g [.agg (enc3.cells x)] h=some (.bool (p x),h)) :
  callL prog raw base (.fn 282 [] []) [v,g] h=some (.int .i64 (idx p l),h):=by
 have hb:l.length<2 ^ 60:=hR.1
 refine callL_run func282 rfl rfl ?_
 have hsp:=@Nat.succ_ne_zero;repeat' (first|simp (disch:=first|exact dqb|fail) only [go_sem,↓reduceIte,hsp,hR.len Fc.el24]|refine WP_drw ?_|refine cnd_intro (fun hsp=>?_) fun hsp=>?_)
 refine WP_loop (fun σ=>∃ n:Nat,σ.fr 8=.int .i64 (n:Int)∧σ.fr 0=v∧σ.fr 1=g∧σ.fr 7=.int .i64 (l.length:Int)∧σ.h=h∧n≤l.length∧(∀ x ∈ l.take n,p x=false)) (fun σ=>match σ.fr 8 with|.int _ x=>(((l.length:Nat):Int)-x).toNat|_=>0) ?_ ?_
 ·refine ⟨0,?_,?_,?_,?_,?_,by omega,?_⟩
  iterate 5 focus (first|rfl|(simp (disch:=first|exact dqb|fail) only [go_sem,↓reduceIte,Int.natCast_zero];first|done|rfl))
  intro x hx;simp at hx
 ·rintro ⟨fr,hp⟩ ⟨n,r8,r0,r1,r7,rh,hi,hP⟩
  dsimp only at r8 r0 r1 r7 rh hi hP
  subst rh
  by_cases hn:n<l.length
  ·have hlt:((n:Int)<(l.length:Int))=True:=eq_true (by omega)
   have hx:l[n]?=some l[n]:=List.getElem?_eq_getElem hn
   have had:=hR.addr (i:=(n:Int)) Fc.el24 Fc.ar24 (by omega) (by omega)
   rw [Int.toNat_natCast] at had
   have hld:=hR.load Fc.ty133 hx
   have hc:=fun base=>hg base l[n] (List.getElem_mem hn)
   cases hp:p l[n] with
   | true =>
    rw [hp] at hc
    have hsp:=@Nat.succ_ne_zero;repeat' (first|simp (disch:=first|exact dqb|fail) only [go_sem,↓reduceIte,hsp,r8,r0,r1,r7,hlt,had,hld,hc]|refine WP_drw ?_|refine cnd_intro (fun hsp=>?_) fun hsp=>?_)
    rw [idx_hit p hn hP hp]
    all_goals (first|refine fI ?_|refine fB ?_|refine fII ?_ ?_|refine fBI ?_ ?_|refine fIII ?_ ?_ ?_|refine fIIB ?_ ?_ ?_|skip);all_goals (try dsimp only);all_goals (try with_reducible rfl);all_goals (try omega)
   | false =>
    rw [hp] at hc
    have hsp:=@Nat.succ_ne_zero;repeat' (first|simp (disch:=first|exact dqb|fail) only [go_sem,↓reduceIte,hsp,r8,r0,r1,r7,hlt,had,hld,hc]|refine WP_drw ?_|refine cnd_intro (fun hsp=>?_) fun hsp=>?_)
    exact ⟨⟨n+1,by simp,by omega,take_next p hn hP hp⟩,by omega⟩
  ·have hlt:((n:Int)<(l.length:Int))=False:=eq_false (by omega)
   obtain rfl:n=l.length:=by omega
   have hsp:=@Nat.succ_ne_zero;repeat' (first|simp (disch:=first|exact dqb|fail) only [go_sem,↓reduceIte,hsp,r8,r0,r1,r7,hlt]|refine WP_drw ?_|refine cnd_intro (fun hsp=>?_) fun hsp=>?_)
   rw [idx_miss p hP]
   all_goals (first|refine fI ?_|refine fB ?_|refine fII ?_ ?_|refine fBI ?_ ?_|refine fIII ?_ ?_ ?_|refine fIIB ?_ ?_ ?_|skip);all_goals (try dsimp only);all_goals (try with_reducible rfl);all_goals (try omega)
theorem anyF_YL {base:Nat} {h:Heap} {v g:AVal} {l:List (Shd)} (p:Shd→Bool) (hR:Rows enc3 h v l) (hg:∀ base x,x ∈ l→callL prog raw base g [.agg (enc3.cells x)] h=some (.bool (p x),h)) :
  callL prog raw base (.fn 248 [] []) [v,g] h=some (.bool (l.any p),h):=by
 have hi:=fun base=>idxF_YL (base:=base) p hR hg
 have h0:=idx_any p l
 refine callL_run func248 rfl rfl ?_
 have hsp:=@Nat.succ_ne_zero;repeat' (first|simp (disch:=first|exact dqb|fail) only [go_sem,↓reduceIte,hsp,hi]|refine WP_drw ?_|refine cnd_intro (fun hsp=>?_) fun hsp=>?_)
 refine fB ?_
 by_cases h1:l.any p=true
 ·rw [h1];simpa using h0.2 h1
 ·have h2:¬ 0≤idx p l:=fun h=>h1 (h0.1 h)
  simp only [Bool.not_eq_true] at h1
  rw [h1];simpa using h2
theorem not_YL {base id:Nat} {h:Heap} {g:AVal} {x:Shd} {b:Bool} (hid:h[id]?=some ⟨.cells [g] 308 false false,0⟩) (hg:∀ base T,callL prog raw base g [.agg (enc3.cells x)] (h++T)=some (.bool b,h++T)) :
  callL prog raw base (.fn 249 [] [.ptr (some ⟨id,0,0⟩)]) [.agg (enc3.cells x)] h=some (.bool (!b),h):=by
 have hgi:=lt_of_get hid
 simp only [enc3] at hg ⊢
 refine callL_run func249 rfl rfl ?_
 have hsp:=@Nat.succ_ne_zero;repeat' (first|simp (disch:=first|exact dqb|fail) only [go_sem,↓reduceIte,hsp,hid,hg]|refine WP_drw ?_|refine cnd_intro (fun hsp=>?_) fun hsp=>?_)
 exact fB rfl
theorem every_YL {base:Nat} {h:Heap} {v g:AVal} {l:List (Shd)} (p:Shd→Bool) (hR:Rows enc3 h v l) (hg:∀ base T x,x ∈ l→callL prog raw base g [.agg (enc3.cells x)] (h++T)=some (.bool (p x),h++T)) (h1:One g) :
  callL prog raw base (.fn 192 [] []) [v,g] h=some (.bool (l.all p),h):=by
 have hc:=fun base=>anyF_YL (base:=base) (fun x=>!p x) hR.app (fun base x hx=>not_YL (x:=x) (get_eq rfl) (fun base T=>by have:=hg base ([⟨.cells [g] 308 false false,0⟩]++T) x hx;rwa [← List.append_assoc] at this))
 refine callL_run func192 rfl rfl ?_
 have hsp:=@Nat.succ_ne_zero;repeat' (first|simp (disch:=first|exact dqb|fail) only [go_sem,↓reduceIte,hsp,hc]|refine WP_drw ?_|refine cnd_intro (fun hsp=>?_) fun hsp=>?_)
 refine fB ?_
 rw [List.any_eq_not_all_not]
 simp
theorem idxF_YS {base:Nat} {h:Heap} {v g:AVal} {l:List (Shd)} (p:Shd→Bool) (hR:Rows enc3 h v l) (hg:∀ base x,x ∈ l→callL prog raw base g [.agg (enc3.cells x)] h=some (.bool (p x),h)) :
  callL prog raw base (.fn 283 [] []) [v,g] h=some (.int .i64 (idx p l),h):=by
 have hb:l.length<2 ^ 60:=hR.1
 refine callL_run func283 rfl rfl ?_
 have hsp:=@Nat.succ_ne_zero;repeat' (first|simp (disch:=first|exact dqb|fail) only [go_sem,↓reduceIte,hsp,hR.len Fc.el25]|refine WP_drw ?_|refine cnd_intro (fun hsp=>?_) fun hsp=>?_)
 refine WP_loop (fun σ=>∃ n:Nat,σ.fr 8=.int .i64 (n:Int)∧σ.fr 0=v∧σ.fr 1=g∧σ.fr 7=.int .i64 (l.length:Int)∧σ.h=h∧n≤l.length∧(∀ x ∈ l.take n,p x=false)) (fun σ=>match σ.fr 8 with|.int _ x=>(((l.length:Nat):Int)-x).toNat|_=>0) ?_ ?_
 ·refine ⟨0,?_,?_,?_,?_,?_,by omega,?_⟩
  iterate 5 focus (first|rfl|(simp (disch:=first|exact dqb|fail) only [go_sem,↓reduceIte,Int.natCast_zero];first|done|rfl))
  intro x hx;simp at hx
 ·rintro ⟨fr,hp⟩ ⟨n,r8,r0,r1,r7,rh,hi,hP⟩
  dsimp only at r8 r0 r1 r7 rh hi hP
  subst rh
  by_cases hn:n<l.length
  ·have hlt:((n:Int)<(l.length:Int))=True:=eq_true (by omega)
   have hx:l[n]?=some l[n]:=List.getElem?_eq_getElem hn
   have had:=hR.addr (i:=(n:Int)) Fc.el25 Fc.ar25 (by omega) (by omega)
   rw [Int.toNat_natCast] at had
   have hld:=hR.load Fc.ty128 hx
   have hc:=fun base=>hg base l[n] (List.getElem_mem hn)
   cases hp:p l[n] with
   | true =>
    rw [hp] at hc
    have hsp:=@Nat.succ_ne_zero;repeat' (first|simp (disch:=first|exact dqb|fail) only [go_sem,↓reduceIte,hsp,r8,r0,r1,r7,hlt,had,hld,hc]|refine WP_drw ?_|refine cnd_intro (fun hsp=>?_) fun hsp=>?_)
    rw [idx_hit p hn hP hp]
    all_goals (first|refine fI ?_|refine fB ?_|refine fII ?_ ?_|refine fBI ?_ ?_|refine fIII ?_ ?_ ?_|refine fIIB ?_ ?_ ?_|skip);all_goals (try dsimp only);all_goals (try with_reducible rfl);all_goals (try omega)
   | false =>
    rw [hp] at hc
    have hsp:=@Nat.succ_ne_zero;repeat' (first|simp (disch:=first|exact dqb|fail) only [go_sem,↓reduceIte,hsp,r8,r0,r1,r7,hlt,had,hld,hc]|refine WP_drw ?_|refine cnd_intro (fun hsp=>?_) fun hsp=>?_)
    exact ⟨⟨n+1,by simp,by omega,take_next p hn hP hp⟩,by omega⟩
  ·have hlt:((n:Int)<(l.length:Int))=False:=eq_false (by omega)
   obtain rfl:n=l.length:=by omega
   have hsp:=@Nat.succ_ne_zero;repeat' (first|simp (disch:=first|exact dqb|fail) only [go_sem,↓reduceIte,hsp,r8,r0,r1,r7,hlt]|refine WP_drw ?_|refine cnd_intro (fun hsp=>?_) fun hsp=>?_)
   rw [idx_miss p hP]
   all_goals (first|refine fI ?_|refine fB ?_|refine fII ?_ ?_|refine fBI ?_ ?_|refine fIII ?_ ?_ ?_|refine fIIB ?_ ?_ ?_|skip);all_goals (try dsimp only);all_goals (try with_reducible rfl);all_goals (try omega)
theorem anyF_YS {base:Nat} {h:Heap} {v g:AVal} {l:List (Shd)} (p:Shd→Bool) (hR:Rows enc3 h v l) (hg:∀ base x,x ∈ l→callL prog raw base g [.agg (enc3.cells x)] h=some (.bool (p x),h)) :
  callL prog raw base (.fn 250 [] []) [v,g] h=some (.bool (l.any p),h):=by
 have hi:=fun base=>idxF_YS (base:=base) p hR hg
 have h0:=idx_any p l
 refine callL_run func250 rfl rfl ?_
 have hsp:=@Nat.succ_ne_zero;repeat' (first|simp (disch:=first|exact dqb|fail) only [go_sem,↓reduceIte,hsp,hi]|refine WP_drw ?_|refine cnd_intro (fun hsp=>?_) fun hsp=>?_)
 refine fB ?_
 by_cases h1:l.any p=true
 ·rw [h1];simpa using h0.2 h1
 ·have h2:¬ 0≤idx p l:=fun h=>h1 (h0.1 h)
  simp only [Bool.not_eq_true] at h1
  rw [h1];simpa using h2
theorem not_YS {base id:Nat} {h:Heap} {g:AVal} {x:Shd} {b:Bool} (hid:h[id]?=some ⟨.cells [g] 310 false false,0⟩) (hg:∀ base T,callL prog raw base g [.agg (enc3.cells x)] (h++T)=some (.bool b,h++T)) :
  callL prog raw base (.fn 251 [] [.ptr (some ⟨id,0,0⟩)]) [.agg (enc3.cells x)] h=some (.bool (!b),h):=by
 have hgi:=lt_of_get hid
 simp only [enc3] at hg ⊢
 refine callL_run func251 rfl rfl ?_
 have hsp:=@Nat.succ_ne_zero;repeat' (first|simp (disch:=first|exact dqb|fail) only [go_sem,↓reduceIte,hsp,hid,hg]|refine WP_drw ?_|refine cnd_intro (fun hsp=>?_) fun hsp=>?_)
 exact fB rfl
theorem every_YS {base:Nat} {h:Heap} {v g:AVal} {l:List (Shd)} (p:Shd→Bool) (hR:Rows enc3 h v l) (hg:∀ base T x,x ∈ l→callL prog raw base g [.agg (enc3.cells x)] (h++T)=some (.bool (p x),h++T)) (h1:One g) :
  callL prog raw base (.fn 194 [] []) [v,g] h=some (.bool (l.all p),h):=by
 have hc:=fun base=>anyF_YS (base:=base) (fun x=>!p x) hR.app (fun base x hx=>not_YS (x:=x) (get_eq rfl) (fun base T=>by have:=hg base ([⟨.cells [g] 310 false false,0⟩]++T) x hx;rwa [← List.append_assoc] at this))
 refine callL_run func194 rfl rfl ?_
 have hsp:=@Nat.succ_ne_zero;repeat' (first|simp (disch:=first|exact dqb|fail) only [go_sem,↓reduceIte,hsp,hc]|refine WP_drw ?_|refine cnd_intro (fun hsp=>?_) fun hsp=>?_)
 refine fB ?_
 rw [List.any_eq_not_all_not]
 simp
theorem not_YI {base id:Nat} {h:Heap} {g:AVal} {x:Int} {b:Bool} (hid:h[id]?=some ⟨.cells [g] 132 false false,0⟩) (hg:∀ base T,callL prog raw base g [.int .i64 x] (h++T)=some (.bool b,h++T)) :
  callL prog raw base (.fn 196 [] [.ptr (some ⟨id,0,0⟩)]) [.int .i64 x] h=some (.bool (!b),h):=by
 have hgi:=lt_of_get hid
 have hg0:=fun base=>hg base []
 simp only [List.append_nil] at hg0
 refine callL_run func196 rfl rfl ?_
 have hsp:=@Nat.succ_ne_zero;repeat' (first|simp (disch:=first|exact dqb|fail) only [go_sem,↓reduceIte,hsp,hid,hg0]|refine WP_drw ?_|refine cnd_intro (fun hsp=>?_) fun hsp=>?_)
 exact fB rfl
theorem every_YI {base:Nat} {h:Heap} {v g:AVal} {l:List (Int)} (p:Int→Bool) (hR:Ints h v l) (hg:∀ base T x,x ∈ l→callL prog raw base g [.int .i64 x] (h++T)=some (.bool (p x),h++T)) (h1:One g) :
  callL prog raw base (.fn 126 [] []) [v,g] h=some (.bool (l.all p),h):=by
 have hc:=fun base=>anyF_I (base:=base) (fun x=>!p x) hR.app (fun base x hx=>not_YI (x:=x) (get_eq rfl) (fun base T=>by have:=hg base ([⟨.cells [g] 132 false false,0⟩]++T) x hx;rwa [← List.append_assoc] at this))
 refine callL_run func126 rfl rfl ?_
 have hsp:=@Nat.succ_ne_zero;repeat' (first|simp (disch:=first|exact dqb|fail) only [go_sem,↓reduceIte,hsp,hc]|refine WP_drw ?_|refine cnd_intro (fun hsp=>?_) fun hsp=>?_)
 refine fB ?_
 rw [List.any_eq_not_all_not]
 simp
end Go.AM
