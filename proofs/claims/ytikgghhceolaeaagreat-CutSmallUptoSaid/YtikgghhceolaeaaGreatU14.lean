/-
  Contracts: all cuts that begin with a unit, one behind the other (cuts).
-/
import Derived.Test.YtikgghhceolaeaaGreatU13
import Derived.Test.YtikgghhceolaeaaGreatU10
import Derived.Test.YtikgghhceolaeaaGreatU11
set_option linter.unusedSimpArgs false
set_option linter.unusedVariables false
namespace Go.AM
open Go.Proofs.Tryz
attribute [-go_sem] put_ne put_same
attribute [local go_sem ↓] put_if
abbrev pB (id:Nat):ABlk:=⟨.cells [.ptr (some ⟨id,0,0⟩)] 96 false false,0⟩
abbrev nB (x:Int):ABlk:=⟨.cells [.int .i64 x] 3 false false,0⟩
def tfB:ABlk:=⟨.cells [.bool false,.bool true] 4 true false,0⟩
abbrev wayB (e p:Int):ABlk:=⟨.cells [.int .i64 e,.int .i64 p] 174 false false,0⟩
abbrev cutV (c:Ct):AVal:=.agg [.int .i64 c.w,.int .i64 c.f,.bool c.j]
abbrev wayV (e:Int × Int):AVal:=.agg [.int .i64 e.1,.int .i64 e.2]
def XC (R:Rib) (x j:Nat) (a:List AVal) (_:Heap):Prop:=∃ c,(cutL R x)[j]?=some c∧a=[cutV c.1,wayV c.2]
def prT (b:ABlk):Prop:=b=tfB
theorem cutM_succ {R:Rib} {x i:Nat}:cutM R x (i+1)=cutM R x i++(cutO R x i).toList:=by
 unfold cutM
 rw [List.range_succ,List.filterMap_append]
 congr 1
theorem cutM_pre {R:Rib} {x i:Nat}:∀ {d:Nat},∃ l,cutM R x (i+d)=cutM R x i++l
 | 0=>⟨[],by simp⟩
 | d+1=>by
  obtain ⟨l,hl⟩:=cutM_pre (R:=R) (x:=x) (i:=i) (d:=d)
  exact ⟨l++(cutO R x (i+d)).toList,by rw [show i+(d+1)=(i+d)+1 by omega,cutM_succ,hl,List.append_assoc]⟩
theorem cutL_at {R:Rib} {x i:Nat} {c:Ct × Int × Int} (hi:i<2 * R.W.length) (h:cutO R x i=some c):(cutL R x)[(cutM R x i).length]?=some c:=by
 obtain ⟨l,hl⟩:=cutM_pre (R:=R) (x:=x) (i:=i+1) (d:=2 * R.W.length-(i+1))
 unfold cutL
 rw [show 2 * R.W.length=i+1+(2 * R.W.length-(i+1)) by omega,hl,cutM_succ,h]
 simp
theorem run_cuts {base id x:Nat} {h:Heap}:Ret prog raw base (.fn 109 [] []) [.ptr (some ⟨id,0,0⟩),.int .i64 (x:Int)] h (fun w H=>w=.fn 148 [] [.ptr (some ⟨h.length,0,0⟩),.ptr (some ⟨h.length+1,0,0⟩)]∧H=h++[pB id]++[nB x]):=by
 unfold pB nB
 refine ret_raw func109 rfl (by kernel_rfl) ?_
 have hsp:=@Nat.succ_ne_zero;repeat' (first|simp (disch:=first|exact dq|fail) only [go_sem,↓reduceIte,hsp]|refine WP_drw ?_|refine cnd_intro (fun hsp=>?_) fun hsp=>?_)
theorem bsTF0 {lit:Bool} {H:Heap} (hl:lit=false):bsA prog lit H 36 2 [(0,.bool false),(1,.bool true)]=some (.slice (some ⟨H.length,0,0⟩) 2 2,H++[tfB]):=by
 subst hl
 simp [bsA,rowOf,Fc.el36,fillA,repCells,AVal.isN,AVal.cells,splice,tfB]
set_option maxRecDepth 100000 in
set_option maxHeartbeats 4000000 in
theorem cuts_yields {base Lx db fb id x:Nat} {R:Rib} {I:Nat→Heap→Prop} (hb:base≤Lx+1) (hR:RibOk R) (hx:x<R.L.toNat) (hI:∀ j H,I j H→DskAt H id R∧H[db]?=some (pB id)∧H[fb]?=some (nB x)) :
  YieldsX prog raw base Lx (.fn 148 [] [.ptr (some ⟨db,0,0⟩),.ptr (some ⟨fb,0,0⟩)]) (cutL R x).length (XC R x) prT I:=by
 intro J S H0 hL hJI happ hcb h0
 have hext:∀ {j H H'},J j H→Ext H H'→J j H':=fun hj e=>by obtain ⟨T,rfl⟩:=e;exact happ _ _ _ hj
 obtain ⟨hI0,hl0⟩:=hJI 0 H0 h0
 obtain ⟨⟨fv,wv,gd,hF,hW⟩,gdb,gfb⟩:=hI _ _ hI0
 have lid:=lt_of_get gd
 have ldb:=lt_of_get gdb
 have lfb:=lt_of_get gfb
 have dW:=fun z=>dsk_ld2 (L:=R.L) (fv:=fv) (wv:=wv) (F:=R.F) (z:=z)
 have hn:=hW.len (P:=prog) Fc.el33
 have hWl:=hW.1
 have hnW:=hR.nW
 suffices hh:Ret prog raw base (.fn 148 [] [.ptr (some ⟨db,0,0⟩),.ptr (some ⟨fb,0,0⟩)]) [.yld Lx] H0 (fun w H'=>J (cutL R x).length H' ∨ S H') by
  obtain ⟨w,H',e,k⟩:=hh
  exact ⟨w,H',e,k⟩
 unfold pB at gdb
 refine ret_raw func148 rfl (by kernel_rfl) ?_
 have hsp:=@Nat.succ_ne_zero;repeat' (first|simp (disch:=first|exact dq|fail) only [go_sem,↓reduceIte,hsp,gdb,gd,dW,hn]|refine WP_drw ?_|refine cnd_intro (fun hsp=>?_) fun hsp=>?_)
 refine WP_count [(4,9),(16,44)] 0 R.W.length (Nat.zero_le _) (fun _ k fr H=>fr 16=.int .i64 (k:Int)∧H0.length≤H.length∧J (cutM R x (2 * k)).length H) ?_ ?_ ?_
 ·exact ⟨by (simp (disch:=first|exact dq|fail) only [go_sem,↓reduceIte,Int.natCast_zero];first|done|rfl),Nat.le_refl _,h0⟩
 ·rintro k fr H hk0 hk hA ⟨r16,lH,hJ⟩
  have p0:=hA 0 rfl
  have p1:=hA 1 rfl
  have p2:=hA 2 rfl
  have p15:=hA 15 rfl
  try simp (disch:=first|exact dq|fail) only [go_sem,↓reduceIte] at p0 p1 p2 p15
  have hlt:((k:Int)<(R.W.length:Int))=True:=eq_true (by omega)
  obtain ⟨H1,eH1⟩:∃ H1,H1=H++[tfB]:=⟨_,rfl⟩
  have x1:Ext H H1:=by rw [eH1];exact .app .refl
  have g1:H1[H.length]?=some tfB:=by rw [eH1];exact get_eq rfl
  have l1:H1.length=H.length+1:=by rw [eH1];simp
  have bt:=fun lit=>bsTF0 (lit:=lit) (H:=H)
  rw [← eH1] at bt
  have hsp:=@Nat.succ_ne_zero;repeat' (first|simp (disch:=first|exact dq|fail) only [go_sem,↓reduceIte,hsp,r16,p0,p1,p2,p15,hlt,bt]|refine WP_drw ?_|refine cnd_intro (fun hsp=>?_) fun hsp=>?_)
  refine WP_count [(6,9),(21,43)] 0 2 (by omega) (fun _ q fr K=>fr 21=.int .i64 (q:Int)∧H1.length≤K.length∧K[H.length]?=some tfB∧J (cutM R x (2 * k+q)).length K) ?_ ?_ ?_
  ·exact ⟨by (simp (disch:=first|exact dq|fail) only [go_sem,↓reduceIte,Int.natCast_zero];first|done|rfl),Nat.le_refl _,g1,hext hJ x1⟩
  ·rintro q fr2 K hq0 hq hA2 ⟨r21,lK,gK,hJK⟩
   have d0:=hA2 0 rfl
   have d1:=hA2 1 rfl
   have d2:=hA2 2 rfl
   have d4:=hA2 4 rfl
   have d15:=hA2 15 rfl
   have d16:=hA2 16 rfl
   have d19:=hA2 19 rfl
   have d20:=hA2 20 rfl
   try simp (disch:=first|exact dq|fail) only [go_sem,↓reduceIte,p0,p1,p2,p15] at d0 d1 d2 d4 d15 d16 d19 d20
   obtain ⟨hIK,hlK⟩:=hJI _ _ hJK
   obtain ⟨⟨fv,wv,gdK,hFK,hWK⟩,gdbK,gfbK⟩:=hI _ _ hIK
   have ldbK:=lt_of_get gdbK
   have lfbK:=lt_of_get gfbK
   have lK0:=lt_of_get gK
   have hw:R.W[k]?=some R.W[k]:=List.getElem?_eq_getElem hk
   generalize R.W[k]=w at hw
   unfold pB at gdbK
   unfold nB at gfbK
   rcases (show q=0 ∨ q=1 by omega) with rfl|rfl
   ·have hltq:((0:Int)<2)=True:=eq_true (by omega)
    have ld:∀ z,ldB (some (false,z)) (K[H.length]?) 0 0=some (.bool false):=fun z=>by rw [gK];rfl
    have ecut:cutO R x (2 * k+0)=(takL R w x false).map fun e=>(⟨(k:Int),(x:Int),false⟩,e):=by
     unfold cutO
     rw [show (2 * k+0) / 2=k by omega,hw,show decide ((2 * k+0) % 2=1)=false from decide_eq_false (by omega)]
    have hcs:=cutM_succ (R:=R) (x:=x) (i:=2 * k+0)
    have e5:=fun base=>run_take (base:=base) (j:=false) (DskAt.ext ⟨fv,wv,gdK,hFK,hWK⟩ (.app (t:=[cutB ⟨k,x,false⟩]) .refl)) hR hw hx
    obtain ⟨G1,eG1⟩:∃ G1,G1=K++[cutB ⟨k,x,false⟩]:=⟨_,rfl⟩
    have y1:Ext K G1:=by rw [eG1];exact .app .refl
    have gc:G1[K.length]?=some (cutB ⟨k,x,false⟩):=by rw [eG1];exact get_eq rfl
    have lG1:G1.length=K.length+1:=by rw [eG1];simp
    have gdb1:=y1.get gdbK
    rw [← eG1] at e5
    unfold cutB at eG1 gc
    cases ht:takL R w x false with
    | none =>
     rw [ht] at ecut e5
     rw [ecut] at hcs
     unfold takV at e5
     obtain ⟨G2,eG2⟩:∃ G2,G2=G1++[wayB 0 0]:=⟨_,rfl⟩
     have y2:Ext G1 G2:=by rw [eG2];exact .app .refl
     have y12:=y1.trans y2
     have lG2:G2.length=G1.length+1:=by rw [eG2];simp
     have gw2:G2[G1.length]?=some (wayB 0 0):=by rw [eG2];exact get_eq rfl
     have es:=set_id gw2
     unfold wayB at eG2 gw2 es
     have hsp:=@Nat.succ_ne_zero;repeat' (first|simp (disch:=first|exact dq|fail) only [go_sem,↓reduceIte,hsp,r21,d0,d1,d2,d4,d15,d16,d19,d20,p0,p1,p2,p15,hltq,ld,gdbK,gfbK,← eG1,gc,gdb1,e5,← eG2,gw2,es]|refine WP_drw ?_|refine cnd_intro (fun hsp=>?_) fun hsp=>?_)
     refine ⟨agq,by omega,y12.get gK,?_⟩
     rw [hcs]
     simp only [Option.map_none,Option.toList,List.append_nil]
     exact hext hJK y12
    | some e =>
     rw [ht] at ecut e5
     have hat:=cutL_at (show 2 * k+0<2 * R.W.length by omega) ecut
     rw [ecut] at hcs
     unfold takV at e5
     obtain ⟨G2,eG2⟩:∃ G2,G2=G1++[wayB e.1 e.2]:=⟨_,rfl⟩
     have y2:Ext G1 G2:=by rw [eG2];exact .app .refl
     have y12:=y1.trans y2
     have lG2:G2.length=G1.length+1:=by rw [eG2];simp
     have gc2:=y2.get gc
     have gw2:G2[G1.length]?=some (wayB e.1 e.2):=by rw [eG2];exact get_eq rfl
     obtain ⟨b,H3,ey,ky,ly,yb1,yb2⟩:=hcb _ [cutV ⟨(k:Int),(x:Int),false⟩,wayV e] G2 (List.getElem?_eq_some_iff.1 hat).1 ⟨_,hat,rfl⟩ (hext hJK y12)
     have gK3:=ky _ _ (by omega) rfl (y12.get gK)
     unfold wayB at eG2 gw2
     unfold cutV wayV at ey
     cases b with
     | true =>
      have hsp:=@Nat.succ_ne_zero;repeat' (first|simp (disch:=first|exact dq|fail) only [go_sem,↓reduceIte,hsp,r21,d0,d1,d2,d4,d15,d16,d19,d20,p0,p1,p2,p15,hltq,ld,gdbK,gfbK,← eG1,gc,gdb1,e5,← eG2,gc2,gw2,ey]|refine WP_drw ?_|refine cnd_intro (fun hsp=>?_) fun hsp=>?_)
      refine ⟨agq,by omega,gK3,?_⟩
      rw [hcs]
      simp only [Option.map_some,Option.toList,List.length_append,List.length_cons,List.length_nil]
      exact yb1 rfl
     | false =>
      have hsp:=@Nat.succ_ne_zero;repeat' (first|simp (disch:=first|exact dq|fail) only [go_sem,↓reduceIte,hsp,r21,d0,d1,d2,d4,d15,d16,d19,d20,p0,p1,p2,p15,hltq,ld,gdbK,gfbK,← eG1,gc,gdb1,e5,← eG2,gc2,gw2,ey]|refine WP_drw ?_|refine cnd_intro (fun hsp=>?_) fun hsp=>?_)
      exact .inr (yb2 rfl)
   ·have hltq:((1:Int)<2)=True:=eq_true (by omega)
    have ld:∀ z,ldB (some (false,z)) (K[H.length]?) 0 1=some (.bool true):=fun z=>by rw [gK];rfl
    have ecut:cutO R x (2 * k+1)=(takL R w x true).map fun e=>(⟨(k:Int),(x:Int),true⟩,e):=by
     unfold cutO
     rw [show (2 * k+1) / 2=k by omega,hw,show decide ((2 * k+1) % 2=1)=true from decide_eq_true (by omega)]
    have hcs:=cutM_succ (R:=R) (x:=x) (i:=2 * k+1)
    have e5:=fun base=>run_take (base:=base) (j:=true) (DskAt.ext ⟨fv,wv,gdK,hFK,hWK⟩ (.app (t:=[cutB ⟨k,x,true⟩]) .refl)) hR hw hx
    obtain ⟨G1,eG1⟩:∃ G1,G1=K++[cutB ⟨k,x,true⟩]:=⟨_,rfl⟩
    have y1:Ext K G1:=by rw [eG1];exact .app .refl
    have gc:G1[K.length]?=some (cutB ⟨k,x,true⟩):=by rw [eG1];exact get_eq rfl
    have lG1:G1.length=K.length+1:=by rw [eG1];simp
    have gdb1:=y1.get gdbK
    rw [← eG1] at e5
    unfold cutB at eG1 gc
    cases ht:takL R w x true with
    | none =>
     rw [ht] at ecut e5
     rw [ecut] at hcs
     unfold takV at e5
     obtain ⟨G2,eG2⟩:∃ G2,G2=G1++[wayB 0 0]:=⟨_,rfl⟩
     have y2:Ext G1 G2:=by rw [eG2];exact .app .refl
     have y12:=y1.trans y2
     have lG2:G2.length=G1.length+1:=by rw [eG2];simp
     have gw2:G2[G1.length]?=some (wayB 0 0):=by rw [eG2];exact get_eq rfl
     have es:=set_id gw2
     unfold wayB at eG2 gw2 es
     have hsp:=@Nat.succ_ne_zero;repeat' (first|simp (disch:=first|exact dq|fail) only [go_sem,↓reduceIte,hsp,r21,d0,d1,d2,d4,d15,d16,d19,d20,p0,p1,p2,p15,hltq,ld,gdbK,gfbK,← eG1,gc,gdb1,e5,← eG2,gw2,es]|refine WP_drw ?_|refine cnd_intro (fun hsp=>?_) fun hsp=>?_)
     refine ⟨agq,by omega,y12.get gK,?_⟩
     rw [hcs]
     simp only [Option.map_none,Option.toList,List.append_nil]
     exact hext hJK y12
    | some e =>
     rw [ht] at ecut e5
     have hat:=cutL_at (show 2 * k+1<2 * R.W.length by omega) ecut
     rw [ecut] at hcs
     unfold takV at e5
     obtain ⟨G2,eG2⟩:∃ G2,G2=G1++[wayB e.1 e.2]:=⟨_,rfl⟩
     have y2:Ext G1 G2:=by rw [eG2];exact .app .refl
     have y12:=y1.trans y2
     have lG2:G2.length=G1.length+1:=by rw [eG2];simp
     have gc2:=y2.get gc
     have gw2:G2[G1.length]?=some (wayB e.1 e.2):=by rw [eG2];exact get_eq rfl
     obtain ⟨b,H3,ey,ky,ly,yb1,yb2⟩:=hcb _ [cutV ⟨(k:Int),(x:Int),true⟩,wayV e] G2 (List.getElem?_eq_some_iff.1 hat).1 ⟨_,hat,rfl⟩ (hext hJK y12)
     have gK3:=ky _ _ (by omega) rfl (y12.get gK)
     unfold wayB at eG2 gw2
     unfold cutV wayV at ey
     cases b with
     | true =>
      have hsp:=@Nat.succ_ne_zero;repeat' (first|simp (disch:=first|exact dq|fail) only [go_sem,↓reduceIte,hsp,r21,d0,d1,d2,d4,d15,d16,d19,d20,p0,p1,p2,p15,hltq,ld,gdbK,gfbK,← eG1,gc,gdb1,e5,← eG2,gc2,gw2,ey]|refine WP_drw ?_|refine cnd_intro (fun hsp=>?_) fun hsp=>?_)
      refine ⟨agq,by omega,gK3,?_⟩
      rw [hcs]
      simp only [Option.map_some,Option.toList,List.length_append,List.length_cons,List.length_nil]
      exact yb1 rfl
     | false =>
      have hsp:=@Nat.succ_ne_zero;repeat' (first|simp (disch:=first|exact dq|fail) only [go_sem,↓reduceIte,hsp,r21,d0,d1,d2,d4,d15,d16,d19,d20,p0,p1,p2,p15,hltq,ld,gdbK,gfbK,← eG1,gc,gdb1,e5,← eG2,gc2,gw2,ey]|refine WP_drw ?_|refine cnd_intro (fun hsp=>?_) fun hsp=>?_)
      exact .inr (yb2 rfl)
  ·rintro fr2 K hA2 ⟨r21,lK,gK,hJK⟩
   have d0:=hA2 0 rfl
   have d1:=hA2 1 rfl
   have d2:=hA2 2 rfl
   have d4:=hA2 4 rfl
   have d15:=hA2 15 rfl
   have d16:=hA2 16 rfl
   have d19:=hA2 19 rfl
   have d20:=hA2 20 rfl
   try simp (disch:=first|exact dq|fail) only [go_sem,↓reduceIte,p0,p1,p2,p15] at d0 d1 d2 d4 d15 d16 d19 d20
   have hlt2:((2:Int)<2)=False:=eq_false (by omega)
   have d16:=hA2 16 rfl
   simp (disch:=first|exact dq|fail) only [go_sem,↓reduceIte,r16] at d16
   have hsp:=@Nat.succ_ne_zero;repeat' (first|simp (disch:=first|exact dq|fail) only [go_sem,↓reduceIte,hsp,r21,d16,d0,d1,d2,d4,d15,d16,d19,d20,p0,p1,p2,p15,hlt2]|refine WP_drw ?_|refine cnd_intro (fun hsp=>?_) fun hsp=>?_)
   exact ⟨agq,by omega,by omega,by rw [show 2 * (k+1)=2 * k+2 by omega];exact hJK⟩
 ·rintro fr H hA ⟨r16,lH,hJ⟩
  have p0:=hA 0 rfl
  have p1:=hA 1 rfl
  have p2:=hA 2 rfl
  have p15:=hA 15 rfl
  try simp (disch:=first|exact dq|fail) only [go_sem,↓reduceIte] at p0 p1 p2 p15
  have hlt:((R.W.length:Int)<(R.W.length:Int))=False:=eq_false (by omega)
  have hsp:=@Nat.succ_ne_zero;repeat' (first|simp (disch:=first|exact dq|fail) only [go_sem,↓reduceIte,hsp,r16,p0,p1,p2,p15,hlt]|refine WP_drw ?_|refine cnd_intro (fun hsp=>?_) fun hsp=>?_)
  exact .inl hJ
end Go.AM
namespace Go.AM
open Go.Proofs.Tryz
attribute [-go_sem] put_ne put_same
attribute [local go_sem ↓] put_if
abbrev valBk (l:List Int):ABlk:=⟨.cells (ints l) 106 false false,0⟩
def zer61:List Int:=lst (fun _=>0) 61
def mdS (R:Rib) (x:Nat):List Int:=lst (fun y=>if x≤y then valD R y else 0) 61
def mdP (R:Rib) (x:Nat) (a:Int):List Int:=lst (fun y=>if y=x then a else if x<y then valD R y else 0) 61
theorem mdS_end {R:Rib}:mdS R R.L.toNat=zer61:=lst_congr fun i _=>by
 split
 ·exact valD_end (by assumption)
 ·rfl
theorem mdP_set {R:Rib} {x:Nat} {a b:Int} (hx:x<61):(mdP R x a).set x b=mdP R x b:=by
 unfold mdP
 rw [lst_set hx]
 refine lst_congr fun i _=>?_
 split<;>rfl
theorem mdS_set {R:Rib} {x:Nat} {b:Int} (hx:x<61):(mdS R (x+1)).set x b=mdP R x b:=by
 unfold mdP mdS
 rw [lst_set hx]
 refine lst_congr fun i _=>?_
 split
 ·rfl
 ·split
  ·rw [if_pos (by omega)]
  ·rw [if_neg (by omega)]
theorem mdP_all {R:Rib} {x:Nat}:mdP R x (valD R x)=mdS R x:=lst_congr fun i _=>by
 split
 ·rename_i e;rw [if_pos (by omega),e]
 ·split
  ·rw [if_pos (by omega)]
  ·rw [if_neg (by omega)]
theorem mdS_len {R:Rib} {x:Nat}:(mdS R x).length=61:=lst_len
theorem mdP_len {R:Rib} {x:Nat} {a:Int}:(mdP R x a).length=61:=lst_len
theorem mdS_at {R:Rib} {x y:Nat} (hy:y<61) (h:x≤y):(mdS R x).getD y 0=valD R y:=by
 unfold mdS;rw [lst_get hy,if_pos h]
theorem mdP_at {R:Rib} {x y:Nat} {a:Int} (hy:y<61) (h:x<y):(mdP R x a).getD y 0=valD R y:=by
 unfold mdP;rw [lst_get hy,if_neg (by omega),if_pos h]
theorem mdP_same {R:Rib} {x:Nat} {a:Int} (hx:x<61):(mdP R x a).getD x 0=a:=by
 unfold mdP;rw [lst_get hx,if_pos rfl]
def accM (R:Rib) (x j:Nat):Int:=((cutL R x).take j).foldl (mx1 R) (valD R (x+1))
theorem accM_succ {R:Rib} {x j:Nat} {c:Ct × Int × Int} (h:(cutL R x)[j]?=some c):accM R x (j+1)=max (accM R x j) (c.2.2+valD R c.2.1.toNat):=by
 unfold accM
 rw [List.take_add_one,h,List.foldl_append];rfl
theorem accM_all {R:Rib} {x:Nat} (hR:RibOk R) (hx:x<R.L.toNat):accM R x (cutL R x).length=valD R x:=by
 unfold accM
 rw [List.take_length,valD_step hR hx]
theorem ldA61 {l:List Int} {e:TypeId} {row ro:Bool} (hl:l.length=61):ldB (some (true,61)) (some ⟨.cells (ints l) e row ro,0⟩) 0 0=some (.agg (ints l)):=by
 rw [ldB_agg (by rw [ints_length];omega),List.drop_zero,List.take_of_length_le (by rw [ints_length];omega)]
theorem stA61 {base id:Nat} {l m:List Int} {e:TypeId} {row:Bool} {K:ABlk→Heap} (hl:l.length=m.length):stQ base id (some ⟨.cells (ints m) e row false,0⟩) 0 0 (ints l) K=some (K ⟨.cells (ints l) e row false,0⟩):=by
 simp only [stQ]
 rw [if_pos ⟨trivial,by rw [ints_length,ints_length];omega,ints_scalar _,.inr (ints_bare _)⟩,splice_all (by rw [ints_length,ints_length];omega)]
theorem stV61 {base id:Nat} {H:Heap} {l m:List Int} (hg:H[id]?=some (valBk m)) (hl:l.length=61) (hm:m.length=61):stP prog base H 106 (.ptr (some ⟨id,0,0⟩)) (.agg (ints l))=some (undefA,H.set id (valBk l)):=by
 rw [stP_ptr Fc.ty106 (by simp [AVal.cells,ints_length,hl]),hg]
 simp only [AVal.cells]
 rw [stA61 (by omega)];rfl
set_option maxRecDepth 100000 in
set_option maxHeartbeats 4000000 in
theorem run_made {base id:Nat} {h:Heap} {R:Rib} (hD:DskAt h id R) (hR:RibOk R) :
  callL prog raw base (.fn 40 [] []) [.ptr (some ⟨id,0,0⟩)] h=some (.agg (ints (mdS R 0)),h):=by
 have hDe:=fun H (e:Ext h H)=>hD.ext e
 obtain ⟨fv,wv,gd,hF,hW⟩:=hD
 have hL:=hR.L
 have lid:=lt_of_get gd
 have dL:=fun z=>dsk_ld0 (L:=R.L) (fv:=fv) (wv:=wv) (F:=R.F) (z:=z)
 obtain ⟨G,eG⟩:∃ G,G=h++[valBk zer61]++[valBk zer61]++[nB (R.L-1)]:=⟨_,rfl⟩
 have xG:Ext h G:=by rw [eG];exact .app (.app (.app .refl))
 have g0:G[h.length]?=some (valBk zer61):=by rw [eG];exact get_app (get_app (get_eq rfl))
 have g1:G[h.length+1]?=some (valBk (mdS R R.L.toNat)):=by rw [eG,mdS_end];exact get_app (get_eq (by simp))
 have g2:G[h.length+2]?=some (nB (R.L-1)):=by rw [eG];exact get_eq (by simp)
 have lG:G.length=h.length+3:=by rw [eG];simp
 have gdG:=xG.get gd
 unfold valBk zer61 nB at eG
 refine callL_run func40 rfl rfl ?_
 have hsp:=@Nat.succ_ne_zero;repeat' (first|simp (disch:=first|exact dq|fail) only [go_sem,↓reduceIte,hsp,gd,dL,← eG]|refine WP_drw ?_|refine cnd_intro (fun hsp=>?_) fun hsp=>?_)
 refine WP_count [(4,25),(28,42)] 0 R.L.toNat (Nat.zero_le _) (fun _ i fr H=>∃ a,fr 4=.ptr (some ⟨a,0,0⟩)∧H[a]?=some (nB (R.L-1-(i:Int)))∧h.length+2≤a∧Ext h H∧H[h.length]?=some (valBk zer61)∧H[h.length+1]?=some (valBk (mdS R (R.L.toNat-i)))) ?_ ?_ ?_
 ·refine ⟨h.length+2,by simp (disch:=first|exact dq|fail) only [go_sem,↓reduceIte],by rw [g2];simp,Nat.le_refl _,xG,g0,by rw [Nat.sub_zero];exact g1⟩
 ·rintro i fr H hi0 hi hA ⟨a,r4,ga,la,xH,gz,gv⟩
  have p0:=hA 0 rfl
  have p2:=hA 2 rfl
  have p3:=hA 3 rfl
  try simp (disch:=first|exact dq|fail) only [go_sem,↓reduceIte] at p0 p2 p3
  obtain ⟨x,ex⟩:∃ x,x=R.L.toNat-(i+1):=⟨_,rfl⟩
  have hx:x<R.L.toNat:=by omega
  rw [show R.L-1-(i:Int)=(x:Int) by omega] at ga
  rw [show R.L.toNat-i=x+1 by omega] at gv
  have hge:((x:Int) ≥ 0)=True:=eq_true (by omega)
  have la2:=lt_of_get ga
  have lv:=lt_of_get gv
  have m1:=mdS_at (R:=R) (x:=x+1) (y:=x+1) (by omega) (Nat.le_refl _)
  have ml:=mdS_len (R:=R) (x:=x+1)
  have vb:=valD_bd hR (x:=x+1)
  have ld1:∀ z,ldB (some (false,z)) (some (valBk (mdS R (x+1)))) 0 (x+1)=some (.int .i64 (valD R (x+1))):=fun z=>by rw [ldB_ints (by omega),m1]
  have st1:∀ (K:ABlk→Heap),stQ h.length (h.length+1) (some (valBk (mdS R (x+1)))) 0 x [.int .i64 (valD R (x+1))] K=some (K (valBk (mdP R x (valD R (x+1))))):=fun K=>by rw [stQ_ints (by omega),mdS_set (by omega)]
  have ex1:((x:Int)+1).toNat=x+1:=by omega
  obtain ⟨H1,eH1⟩:∃ H1,H1=H.set (h.length+1) (valBk (mdP R x (valD R (x+1)))):=⟨_,rfl⟩
  have l1:H1.length=H.length:=by rw [eH1,List.length_set]
  have xH1:Ext h H1:=by rw [eH1];exact xH.set (by omega)
  have gz1:H1[h.length]?=some (valBk zer61):=by rw [eH1,List.getElem?_set_ne (by omega)];exact gz
  have ga1:H1[a]?=some (nB (x:Int)):=by rw [eH1,List.getElem?_set_ne (by omega)];exact ga
  have gv1:H1[h.length+1]?=some (valBk (mdP R x (accM R x 0))):=by rw [eH1,List.getElem?_set_self lv];rfl
  obtain ⟨w3,H3,e3,rfl,eH3⟩:=run_cuts (base:=h.length) (id:=id) (x:=x) (h:=H1)
  have x3:Ext H1 H3:=by rw [eH3];exact .app (.app .refl)
  have l3:H3.length=H1.length+2:=by rw [eH3];simp
  have gdb:H3[H1.length]?=some (pB id):=by rw [eH3];exact get_app (get_eq rfl)
  have gfb:H3[H1.length+1]?=some (nB (x:Int)):=by rw [eH3];exact get_eq (by simp)
  unfold nB at ga
  unfold valBk at ld1 st1 gv eH1
  have hsp:=@Nat.succ_ne_zero;repeat' (first|simp (disch:=first|exact dq|fail) only [go_sem,↓reduceIte,hsp,r4,p0,p2,p3,ga,hge,gv,ld1,st1,ex1,← eH1,ga1,e3]|refine WP_drw ?_|refine cnd_intro (fun hsp=>?_) fun hsp=>?_)
  refine WP_rangeX (by simp (disch:=first|exact dq|fail) only [go_sem,↓reduceIte]) (N:=(cutL R x).length) (X:=XC R x) (pr:=prT) (fun j K=>H3.length+1≤K.length∧Ext h K∧K[h.length]?=some (valBk zer61)∧K[a]?=some (nB (x:Int))∧K[H1.length]?=some (pB id)∧K[H1.length+1]?=some (nB (x:Int))∧K[h.length+1]?=some (valBk (mdP R x (accM R x j)))) (fun _ _=>False)
   (cuts_yields (id:=id) (db:=H1.length) (fb:=H1.length+1) (by omega) hR hx (fun j K q=>⟨hDe K q.2.1,q.2.2.2.2.1,q.2.2.2.2.2.1⟩)) ?_ ?_ ?_ ?_ ?_ ?_ ?_ ?_
  ·rintro j b K ⟨c,_,rfl⟩;rfl
  ·rintro j K T ⟨i1,i2,i3,i4,i5,i6,i7⟩
   exact ⟨by simp;omega,i2.trans (.app .refl),get_app i3,get_app i4,get_app i5,get_app i6,get_app i7⟩
  ·rintro j K B ⟨i1,i2,i3,i4,i5,i6,i7⟩
   exact ⟨by simpa using i1,i2.set (by omega),by rw [List.getElem?_set_ne (by omega)];exact i3,by rw [List.getElem?_set_ne (by omega)];exact i4,by rw [List.getElem?_set_ne (by omega)];exact i5,by rw [List.getElem?_set_ne (by omega)];exact i6,by rw [List.getElem?_set_ne (by omega)];exact i7⟩
  ·intro e K B q;exact q
  ·exact ⟨by simp,(xH1.trans x3).trans (.app .refl),get_app (x3.get gz1),get_app (x3.get ga1),get_app gdb,get_app gfb,get_app (x3.get gv1)⟩
  ·rintro j b K B1 B2 hj ⟨c,hc,rfl⟩ ⟨i1,i2,i3,i4,i5,i6,i7⟩ hKl hB
   have hcb:=(cutL_b hR hx (List.mem_of_getElem? hc)).1
   obtain ⟨⟨cw,cf,cj⟩,ce,cp⟩:=c
   dsimp only at hcb
   obtain ⟨e,rfl⟩:=Int.eq_ofNat_of_zero_le (show 0≤ce by omega)
   have hac:=accM_succ hc
   simp only [Int.toNat_natCast] at hac
   obtain ⟨ac,eac⟩:∃ ac,ac=accM R x j:=⟨_,rfl⟩
   rw [← eac] at i7 hac
   obtain ⟨K1,eK1⟩:∃ K1,K1=K.set H3.length B2:=⟨_,rfl⟩
   have lK1:K1.length=K.length:=by rw [eK1,List.length_set]
   obtain ⟨K2,eK2⟩:∃ K2,K2=K1++[wayB (e:Int) cp]:=⟨_,rfl⟩
   have lK2:K2.length=K.length+1:=by rw [eK2];simp [lK1]
   have y2:Ext K1 K2:=by rw [eK2];exact .app .refl
   have k4:K2[a]?=some (nB (x:Int)):=y2.get (by rw [eK1,List.getElem?_set_ne (by omega)];exact i4)
   have k7:K2[h.length+1]?=some (valBk (mdP R x ac)):=y2.get (by rw [eK1,List.getElem?_set_ne (by omega)];exact i7)
   have kw:K2[K.length]?=some (wayB (e:Int) cp):=by rw [eK2,← lK1];exact get_eq rfl
   have vb:=valD_bd hR (x:=e)
   have ld2:∀ z,ldB (some (false,z)) (some (valBk (mdP R x ac))) 0 x=some (.int .i64 ac):=fun z=>by rw [ldB_ints (by rw [mdP_len];omega),mdP_same (by omega)]
   have ld3:∀ z,ldB (some (false,z)) (some (valBk (mdP R x ac))) 0 e=some (.int .i64 (valD R e)):=fun z=>by rw [ldB_ints (by rw [mdP_len];omega),mdP_at (by omega) (by omega)]
   obtain ⟨K3,eK3⟩:∃ K3,K3=K2++[rowB [cp+valD R e] 0]:=⟨_,rfl⟩
   have y3:Ext K2 K3:=by rw [eK3];exact .app .refl
   have k37:=y3.get k7
   have hm:=fun base=>run_most1 (base:=base) (m:=K2.length) (A:=K2) (n:=ac) (x:=cp+valD R e) rfl (by omega)
   rw [← eK3] at hm
   have st2:∀ (F:ABlk→Heap),stQ h.length (h.length+1) (some (valBk (mdP R x ac))) 0 x [.int .i64 (max ac (cp+valD R e))] F=some (F (valBk (mdP R x (max ac (cp+valD R e))))):=fun F=>by rw [stQ_ints (by rw [mdP_len];omega),mdP_set (by omega)]
   unfold valBk at ld2 ld3 st2 k7 k37
   unfold nB at k4
   unfold wayB at eK2 kw
   have hsp:=@Nat.succ_ne_zero;repeat' (first|simp (disch:=first|exact dq|fail) only [go_sem,↓reduceIte,hsp,r4,p0,p2,p3,hB,← eK1,← eK2,k4,k7,kw,ld2,ld3,← eK3,hm,k37,st2]|refine WP_drw ?_|refine cnd_intro (fun hsp=>?_) fun hsp=>?_)
   have lK3:K3.length=K.length+2:=by rw [eK3];simp [lK2]
   have z3:Ext K1 K3:=y2.trans y3
   have nk:∀ {i:Nat} {z:ABlk},i ≠ H3.length→K[i]?=some z→K3[i]?=some z:=fun hi hz=>z3.get (by rw [eK1,List.getElem?_set_ne (fun q=>hi q.symm)];exact hz)
   refine ⟨z3.get (by rw [eK1,List.getElem?_set_self (by omega)]),fun i z hi hp hz=>?_,by omega,.inl ⟨by omega,Ext.set (Ext.trans (by rw [eK1];exact i2.set (by omega)) z3) (by omega),nk (by omega) i3,nk (by omega) i4,nk (by omega) i5,nk (by omega) i6,?_⟩⟩
   ·rw [List.getElem?_set_ne (by omega)]
    exact nk (by omega) hz
   ·rw [List.getElem?_set_self (by omega),hac]
  ·rintro K ⟨i1,i2,i3,i4,i5,i6,i7⟩
   rw [accM_all hR hx,mdP_all] at i7
   unfold nB at i4
   have hsp:=@Nat.succ_ne_zero;repeat' (first|simp (disch:=first|exact dq|fail) only [go_sem,↓reduceIte,hsp,r4,p0,p2,p3,i4]|refine WP_drw ?_|refine cnd_intro (fun hsp=>?_) fun hsp=>?_)
   refine ⟨agq,_,rfl,?_,by omega,.app i2,i3,?_⟩
   ·rw [get_eq rfl,show R.L-1-((i+1:Nat):Int)=(x:Int)-1 by omega]
   ·rw [← ex];exact i7
  ·intro e K _ q;exact q.elim
 ·rintro fr H hA ⟨a,r4,ga,la,xH,gz,gv⟩
  have p0:=hA 0 rfl
  have p2:=hA 2 rfl
  have p3:=hA 3 rfl
  try simp (disch:=first|exact dq|fail) only [go_sem,↓reduceIte] at p0 p2 p3
  have hge:((R.L-1-((R.L.toNat:Nat):Int)) ≥ 0)=False:=eq_false (by omega)
  rw [Nat.sub_self] at gv
  unfold nB at ga
  have ld:=ldA61 (l:=mdS R 0) (e:=106) (row:=false) (ro:=false) mdS_len
  have st:=stV61 (base:=h.length) (l:=mdS R 0) gz mdS_len rfl
  have gzs:(H.set h.length (valBk (mdS R 0)))[h.length]?=some (valBk (mdS R 0)):=by rw [List.getElem?_set_self (lt_of_get gz)]
  unfold valBk at st gzs gv
  have hsp:=@Nat.succ_ne_zero;repeat' (first|simp (disch:=first|exact dq|fail) only [go_sem,↓reduceIte,hsp,r4,p0,p2,p3,ga,hge,gv,ld,st,gzs]|refine WP_drw ?_|refine cnd_intro (fun hsp=>?_) fun hsp=>?_)
  exact fin_pl rfl (ints_plain _) (xH.set (Nat.le_refl _))
end Go.AM
namespace Go.AM
open Go.Proofs.Tryz
attribute [-go_sem] put_ne put_same
attribute [local go_sem ↓] put_if
theorem ev_str {fr:AFrame} {s:ByteArray}:ev fr (.const (.string s))=.str s:=rfl
theorem ix_str {t:TypeId} {s:ByteArray} {k:IntKind} {n:Nat} (ha:arT prog t=none) (hs:strT prog t=true):indexA prog t (.str s) (.int k (n:Int))=(s[n]?).map fun b=>.int .u8 b.toNat:=by
 unfold indexA
 rw [ha]
 simp only [hs,true_and]
 rw [if_pos (by omega),Int.toNat_natCast]
def lenT (n:Nat):Nat:=[0,1,2,2,3,3,3,3,4,4,4,4,4].getD n 0
theorem lenT_lt {n:Nat}:lenT n≤4:=by
 by_cases h:n<13
 ·have:∀ n:Fin 13,lenT n≤4:=by decide
  exact this ⟨n,h⟩
 ·unfold lenT
  rw [List.getD_eq_getElem?_getD,List.getElem?_eq_none (by simp;omega)];decide
theorem len_key {k n:Nat} {s:ByteArray} {K:AVal→Prop} (h:s[n]?=some (UInt8.ofNat k)) (hk:k≤4) (hK:K (.int .u8 (k:Int))):bindv ((s[n]?).map fun b=>AVal.int .u8 (b.toNat:Int)) K:=by
 rw [h]
 simp only [Option.map_some,bindv_some]
 have:(UInt8.ofNat k).toNat=k:=by rw [UInt8.toNat_ofNat'];exact Nat.mod_eq_of_lt (by omega)
 rw [this]
 exact hK
theorem run_len64 {base n:Nat} {h:Heap} (hn:n≤12):callL prog raw base (.fn 172 [] []) [.int .u64 (n:Int)] h=some (.int .i64 (lenT n:Int),h):=by
 have t1:((n:Int) ≥ 4294967296)=False:=eq_false (by omega)
 have t2:((n:Int) ≥ 65536)=False:=eq_false (by omega)
 have t3:((n:Int) ≥ 256)=False:=eq_false (by omega)
 have c1:convA prog 5 89 (.int .u64 (n:Int))=some (.int .u8 (n:Int)):=by
  simp only [convA,underlying89,Fc.ik5]
  have e:(n:Int) % 2 ^ 8=n:=Int.emod_eq_of_lt (by omega) (by omega)
  simp only [IntKind.wrap,IntKind.signed,IntKind.bits,Bool.false_eq_true,Bool.false_and,if_false,e]
 have c2:∀ k:Nat,k≤4→convA prog 3 5 (.int .u8 (k:Int))=some (.int .i64 (k:Int)):=fun k hk=>by
  simp only [convA,underlying5,Fc.ik3]
  rw [wrap64 (by omega) (by omega)]
 have hl:=lenT_lt (n:=n)
 have c3:=c2 (lenT n) hl
 have ix:=fun (s:ByteArray) (k:IntKind)=>ix_str (t:=9) (s:=s) (k:=k) (n:=n) Fc.ar9 (by kernel_rfl)
 refine callL_run func172 rfl rfl ?_
 have hsp:=@Nat.succ_ne_zero;repeat' (first|simp (disch:=first|exact dq|fail) only [go_sem,↓reduceIte,hsp,t1,t2,t3,c1,ev_str,ix]|refine WP_drw ?_|refine cnd_intro (fun hsp=>?_) fun hsp=>?_)
 refine len_key (k:=lenT n) ?_ hl ?_
 ·rcases (by omega:n=0 ∨ n=1 ∨ n=2 ∨ n=3 ∨ n=4 ∨ n=5 ∨ n=6 ∨ n=7 ∨ n=8 ∨ n=9 ∨ n=10 ∨ n=11 ∨ n=12) with e|e|e|e|e|e|e|e|e|e|e|e|e<;>subst e<;>kernel_rfl
 ·have hsp:=@Nat.succ_ne_zero;repeat' (first|simp (disch:=first|exact dq|fail) only [go_sem,↓reduceIte,hsp,c3]|refine WP_drw ?_|refine cnd_intro (fun hsp=>?_) fun hsp=>?_)
  exact fI (by omega)
theorem run_len {base n:Nat} {h:Heap} (hn:n≤12):callL prog raw base (.fn 162 [] []) [.int .u64 (n:Int)] h=some (.int .i64 (lenT n:Int),h):=by
 have e:=fun base=>run_len64 (base:=base) (h:=h) hn
 refine callL_run func162 rfl rfl ?_
 have hsp:=@Nat.succ_ne_zero;repeat' (first|simp (disch:=first|exact dq|fail) only [go_sem,↓reduceIte,hsp,e]|refine WP_drw ?_|refine cnd_intro (fun hsp=>?_) fun hsp=>?_)
 exact fI rfl
def Srt (m:List Int) (i j:Nat):Prop:=∀ a b,a<b→b≤i→b ≠ j→m.getD a 0≤m.getD b 0
def swp (m:List Int) (j:Nat):List Int:=(m.set (j+1) (m.getD j 0)).set j (m.getD (j+1) 0)
theorem getD_setI {l:List Int} {i j:Nat} {b:Int} (hi:i<l.length):(l.set i b).getD j 0=if i=j then b else l.getD j 0:=by
 rw [List.getD_eq_getElem?_getD,List.getElem?_set,List.getD_eq_getElem?_getD]
 by_cases e:i=j
 ·subst e;simp [hi]
 ·simp [e]
theorem swp_get {m:List Int} {j k:Nat} (hj:j+1<m.length):(swp m j).getD k 0=if k=j then m.getD (j+1) 0 else if k=j+1 then m.getD j 0 else m.getD k 0:=by
 unfold swp
 rw [getD_setI (by simp;omega),getD_setI (by omega)]
 repeat' split
 all_goals first|rfl|(exfalso;omega)
theorem swp_perm {m:List Int} {j:Nat} (hj:j+1<m.length):(swp m j).Perm m:=by
 have e:m=m.take j++m.getD j 0 :: m.getD (j+1) 0 :: m.drop (j+2):=by
  conv=>lhs;rw [← List.take_append_drop j m]
  congr 1
  rw [List.drop_eq_getElem_cons (by omega),List.drop_eq_getElem_cons hj]
  congr 1
  ·rw [List.getD_eq_getElem?_getD,List.getElem?_eq_getElem (by omega)];rfl
  ·congr 1
   rw [List.getD_eq_getElem?_getD,List.getElem?_eq_getElem hj];rfl
 have e2:swp m j=m.take j++m.getD (j+1) 0 :: m.getD j 0 :: m.drop (j+2):=by
  unfold swp
  generalize m.getD j 0=x at *
  generalize m.getD (j+1) 0=y at *
  have hl:(m.take j).length=j:=by rw [List.length_take];omega
  conv=>lhs;rw [e]
  rw [List.set_append_right _ _ (by omega),hl,show j+1-j=1 by omega,List.set_append_right _ _ (by omega),hl,Nat.sub_self]
  rfl
 rw [e2]
 conv=>rhs;rw [e]
 exact List.Perm.append_left _ (List.Perm.swap ..)
theorem Srt.swap {m:List Int} {i j:Nat} (h:Srt m i (j+1)) (hj:j+1≤i) (hi:i<m.length) (hlt:m.getD (j+1) 0<m.getD j 0):Srt (swp m j) i j:=by
 intro a b hab hb hne
 rw [swp_get (by omega),swp_get (by omega),if_neg hne]
 by_cases b1:b=j+1
 ·subst b1
  rw [if_pos rfl]
  by_cases a1:a=j
  ·rw [if_pos a1];omega
  ·rw [if_neg a1,if_neg (by omega)]
   exact h a j (by omega) (by omega) (by omega)
 ·rw [if_neg b1]
  by_cases a1:a=j
  ·rw [if_pos a1];exact h (j+1) b (by omega) hb b1
  ·rw [if_neg a1]
   by_cases a2:a=j+1
   ·rw [if_pos a2];exact h j b (by omega) hb b1
   ·rw [if_neg a2];exact h a b hab hb b1
theorem Srt.done {m:List Int} {i j:Nat} (h:Srt m i j) (hj:j=0 ∨ m.getD (j-1) 0≤m.getD j 0) (hi:j≤i):∀ a b,a<b→b≤i→m.getD a 0≤m.getD b 0:=fun a b hab hb=>by
 by_cases e:b=j
 ·subst e
  rcases hj with hj|hj
  ·omega
  ·by_cases e2:a=b-1
   ·rw [e2];exact hj
   ·exact Int.le_trans (h a (b-1) (by omega) (by omega) (by omega)) hj
 ·exact h a b hab hb e
abbrev srB (m:List Int) (e:TypeId) (ver:Nat):ABlk:=⟨.cells (ints m) e true false,ver⟩
def srtL (l:List Int):List Int:=l.mergeSort fun a b=>decide (a≤b)
theorem srtL_perm {l:List Int}:(srtL l).Perm l:=List.mergeSort_perm ..
theorem srtL_sorted {l:List Int}:(srtL l).Pairwise (·≤·):=by
 have:=List.pairwise_mergeSort (le:=fun a b:Int=>decide (a≤b)) (fun a b c h1 h2=>by simp only [decide_eq_true_eq] at *;omega) (fun a b=>by simp only [Bool.or_eq_true,decide_eq_true_eq];omega) l
 exact this.imp fun h=>of_decide_eq_true h
theorem srtL_len {l:List Int}:(srtL l).length=l.length:=srtL_perm.length_eq
theorem srtL_eq {l m:List Int} (hp:m.Perm l) (hs:m.Pairwise (·≤·)):m=srtL l :=
 (hp.trans srtL_perm.symm).eq_of_pairwise (fun a b _ _ h1 h2=>Int.le_antisymm h1 h2) hs srtL_sorted
theorem sorted_of {m:List Int} (h:∀ a b,a<b→b<m.length→m.getD a 0≤m.getD b 0):m.Pairwise (·≤·):=by
 rw [List.pairwise_iff_getElem]
 intro i j hi hj hij
 have:=h i j hij hj
 rwa [List.getD_eq_getElem?_getD,List.getD_eq_getElem?_getD,List.getElem?_eq_getElem hi,List.getElem?_eq_getElem hj] at this
set_option maxHeartbeats 400000 in
theorem run_insertion {base id ver:Nat} {e:TypeId} {h:Heap} {l:List Int} (hg:h[id]?=some (srB l e ver)) (hl:l.length≤12) :
  callL prog raw base (.fn 163 [] []) [.slice (some ⟨id,ver,0⟩) l.length l.length,.int .i64 0,.int .i64 (l.length:Int)] h=some (.tuple [],h.set id (srB (srtL l) e ver)):=by
 have gs:∀ m,(h.set id (srB m e ver))[id]?=some (srB m e ver):=fun m=>by rw [List.getElem?_set_self (lt_of_get hg)]
 have ss:∀ m m',(h.set id (srB m e ver)).set id (srB m' e ver)=h.set id (srB m' e ver):=fun m m'=>List.set_set ..
 have h0:h.set id (srB l e ver)=h:=set_id hg
 have hend:∀ {H:Heap},H=h.set id (srB (srtL l) e ver)→compact h.length (.tuple []) H=some (.tuple [],h.set id (srB (srtL l) e ver)):=by
  rintro _ rfl
  have e:h.length=(h.set id (srB (srtL l) e ver)).length:=by simp
  rw [e]
  exact compact_plain' rfl
 have hid:=lt_of_get hg
 refine callL_run func163 rfl rfl ?_
 have hsp:=@Nat.succ_ne_zero;repeat' (first|simp (disch:=first|exact dq|fail) only [go_sem,↓reduceIte,hsp]|refine WP_drw ?_|refine cnd_intro (fun hsp=>?_) fun hsp=>?_)
 refine WP_count [(6,48)] 1 (max 1 l.length) (by omega) (fun _ i fr h'=>fr 6=.int .i64 (i:Int)∧∃ m:List Int,h'=h.set id (srB m e ver)∧m.Perm l∧∀ a b,a<b→b<i→m.getD a 0≤m.getD b 0) ?_ ?_ ?_
 ·exact ⟨by (simp (disch:=first|exact dq|fail) only [go_sem,↓reduceIte,Int.natCast_zero];first|done|rfl),l,h0.symm,.refl _,fun a b h1 h2=>by omega⟩
 ·rintro i fr H hi0 hi hA ⟨p6,m,rfl,hm,hs⟩
  have p0:=hA 0 rfl
  have p1:=hA 1 rfl
  have p2:=hA 2 rfl
  try simp (disch:=first|exact dq|fail) only [go_sem,↓reduceIte] at p0 p1 p2
  have hlt:((i:Int)<(l.length:Int))=True:=eq_true (by omega)
  have hml:=hm.length_eq
  have hsp:=@Nat.succ_ne_zero;repeat' (first|simp (disch:=first|exact dq|fail) only [go_sem,↓reduceIte,hsp,p0,p1,p2,p6,hlt]|refine WP_drw ?_|refine cnd_intro (fun hsp=>?_) fun hsp=>?_)
  refine WP_cmeet [(7,48)] 0 i (Nat.zero_le _) (fun _ k fr h'=>fr 7=.int .i64 ((i-k:Nat):Int)∧∃ m:List Int,h'=h.set id (srB m e ver)∧m.Perm l∧Srt m i (i-k)) (fun fr h'=>∃ m:List Int,h'=h.set id (srB m e ver)∧m.Perm l∧∀ a b,a<b→b<i+1→m.getD a 0≤m.getD b 0) ?_ ?_ ?_ ?_
  ·exact ⟨by (simp (disch:=first|exact dq|fail) only [go_sem,↓reduceIte,Nat.sub_zero,p6];first|done|rfl),m,rfl,hm,fun a b h1 h2 h3=>hs a b h1 (by omega)⟩
  ·rintro k fr2 H2 hk0 hk hB ⟨q7,m2,eH2,hm2,hs2⟩
   have q0:=hB 0 rfl
   have q1:=hB 1 rfl
   have q2:=hB 2 rfl
   have q6:=hB 6 rfl
   try simp (disch:=first|exact dq|fail) only [go_sem,↓reduceIte,p0,p1,p2,p6] at q0 q1 q2 q6
   obtain ⟨j,ej⟩:∃ j,i-k=j+1:=⟨i-k-1,by omega⟩
   rw [ej] at hs2 q7
   have hml2:=hm2.length_eq
   have hgt:(((j+1:Nat):Int) > 0)=True:=eq_true (by omega)
   have ejj:((j+1:Nat):Int)-1=(j:Int):=by omega
   have g2:H2[id]?=some ⟨.cells (ints m2) e true false,ver⟩:=by rw [eH2];exact gs m2
   have hj1:j+1<l.length:=by omega
   have a1:indexAddrA prog 32 (.slice (some ⟨id,ver,0⟩) l.length l.length) (.int .i64 ((j+1:Nat):Int))=some (.ptr (some ⟨id,ver,j+1⟩)):=by
    rw [adr_sl Fc.el32 Fc.ar32 (by omega) (by omega),Int.toNat_natCast,Nat.mul_one,Nat.zero_add]
   have a2:indexAddrA prog 32 (.slice (some ⟨id,ver,0⟩) l.length l.length) (.int .i64 (j:Int))=some (.ptr (some ⟨id,ver,j⟩)):=by
    rw [adr_sl Fc.el32 Fc.ar32 (by omega) (by omega),Int.toNat_natCast,Nat.mul_one,Nat.zero_add]
   have d1:loadP prog H2 3 (.ptr (some ⟨id,ver,j+1⟩))=some (.int .i64 (m2.getD (j+1) 0)):=by
    rw [load_eq,Fc.ty3,g2];exact ldB_ints (by omega)
   have d2:loadP prog H2 3 (.ptr (some ⟨id,ver,j⟩))=some (.int .i64 (m2.getD j 0)):=by
    rw [load_eq,Fc.ty3,g2];exact ldB_ints (by omega)
   by_cases c1:m2.getD (j+1) 0<m2.getD j 0
   ·have t1:(m2.getD (j+1) 0<m2.getD j 0)=True:=eq_true c1
    have st1:∀ {K:ABlk→Heap},stQ h.length id (some ⟨.cells (ints m2) e true false,ver⟩) ver (j+1) [.int .i64 (m2.getD j 0)] K=some (K ⟨.cells (ints (m2.set (j+1) (m2.getD j 0))) e true false,ver⟩):=fun {K}=>stQ_ints (by omega)
    have st2:∀ {K:ABlk→Heap},stQ h.length id (some ⟨.cells (ints (m2.set (j+1) (m2.getD j 0))) e true false,ver⟩) ver j [.int .i64 (m2.getD (j+1) 0)] K=some (K ⟨.cells (ints (swp m2 j)) e true false,ver⟩):=fun {K}=>stQ_ints (by simp;omega)
    obtain ⟨H3,eH3⟩:∃ H3,H3=H2.set id ⟨.cells (ints (m2.set (j+1) (m2.getD j 0))) e true false,ver⟩:=⟨_,rfl⟩
    have g3:H3[id]?=some ⟨.cells (ints (m2.set (j+1) (m2.getD j 0))) e true false,ver⟩:=by rw [eH3,List.getElem?_set_self (lt_of_get g2)]
    have hsp:=@Nat.succ_ne_zero;repeat' (first|simp (disch:=first|exact dq|fail) only [go_sem,↓reduceIte,hsp,q0,q1,q2,q6,q7,p0,p1,p2,p6,hgt,ejj,a1,a2,d1,d2,run_less,t1,g2,st1,← eH3,g3,st2]|refine WP_drw ?_|refine cnd_intro (fun hsp=>?_) fun hsp=>?_)
    refine ⟨agq,by omega,swp m2 j,by rw [eH3,eH2,List.set_set,List.set_set],(swp_perm (by omega)).trans hm2,?_⟩
    rw [show i-(k+1)=j by omega]
    exact hs2.swap (by omega) (by omega) c1
   ·have t1:(m2.getD (j+1) 0<m2.getD j 0)=False:=eq_false c1
    have hsp:=@Nat.succ_ne_zero;repeat' (first|simp (disch:=first|exact dq|fail) only [go_sem,↓reduceIte,hsp,q0,q1,q2,q6,q7,p0,p1,p2,p6,hgt,ejj,a1,a2,d1,d2,run_less,t1]|refine WP_drw ?_|refine cnd_intro (fun hsp=>?_) fun hsp=>?_)
    refine ⟨agq,m2,eH2,hm2,fun a b h1 h2=>hs2.done (.inr (by rw [Nat.add_sub_cancel];omega)) (by omega) a b h1 (by omega)⟩
  ·rintro fr2 H2 hB ⟨q7,m2,rfl,hm2,hs2⟩
   have q0:=hB 0 rfl
   have q1:=hB 1 rfl
   have q2:=hB 2 rfl
   have q6:=hB 6 rfl
   try simp (disch:=first|exact dq|fail) only [go_sem,↓reduceIte,p0,p1,p2,p6] at q0 q1 q2 q6
   rw [Nat.sub_self] at q7 hs2
   have t0:((0:Int) > 0)=False:=eq_false (by omega)
   have t00:(((0:Nat):Int) > 0)=False:=eq_false (by omega)
   have hsp:=@Nat.succ_ne_zero;repeat' (first|simp (disch:=first|exact dq|fail) only [go_sem,↓reduceIte,hsp,q0,q1,q2,q6,q7,p0,p1,p2,p6,t0,t00]|refine WP_drw ?_|refine cnd_intro (fun hsp=>?_) fun hsp=>?_)
   exact ⟨agq,m2,rfl,hm2,fun a b h1 h2=>hs2.done (.inl rfl) (by omega) a b h1 (by omega)⟩
  ·rintro fr2 H2 hB ⟨m2,rfl,hm2,hs2⟩
   have q0:=hB 0 rfl
   have q1:=hB 1 rfl
   have q2:=hB 2 rfl
   have q6:=hB 6 rfl
   try simp (disch:=first|exact dq|fail) only [go_sem,↓reduceIte,p0,p1,p2,p6] at q0 q1 q2 q6
   have hsp:=@Nat.succ_ne_zero;repeat' (first|simp (disch:=first|exact dq|fail) only [go_sem,↓reduceIte,hsp,q0,q1,q2,q6,p0,p1,p2,p6]|refine WP_drw ?_|refine cnd_intro (fun hsp=>?_) fun hsp=>?_)
   exact ⟨agq,by omega,m2,rfl,hm2,hs2⟩
 ·rintro fr H hA ⟨p6,m,rfl,hm,hs⟩
  have p0:=hA 0 rfl
  have p1:=hA 1 rfl
  have p2:=hA 2 rfl
  try simp (disch:=first|exact dq|fail) only [go_sem,↓reduceIte] at p0 p1 p2
  have hlt:(((max 1 l.length:Nat):Int)<(l.length:Int))=False:=eq_false (by omega)
  have hml:=hm.length_eq
  have hsp:=@Nat.succ_ne_zero;repeat' (first|simp (disch:=first|exact dq|fail) only [go_sem,↓reduceIte,hsp,p0,p1,p2,p6,hlt]|refine WP_drw ?_|refine cnd_intro (fun hsp=>?_) fun hsp=>?_)
  refine hend ?_
  rw [srtL_eq hm (sorted_of fun a b h1 h2=>hs a b h1 (by omega))]
theorem run_pdq {base id ver k:Nat} {e:TypeId} {h:Heap} {l:List Int} (hg:h[id]?=some (srB l e ver)) (hl:l.length≤12) :
  callL prog raw base (.fn 161 [] []) [.slice (some ⟨id,ver,0⟩) l.length l.length,.int .i64 0,.int .i64 (l.length:Int),.int .i64 (k:Int)] h=some (.tuple [],h.set id (srB (srtL l) e ver)):=by
 have hend:∀ {H:Heap},H=h.set id (srB (srtL l) e ver)→compact h.length (.tuple []) H=some (.tuple [],h.set id (srB (srtL l) e ver)):=by
  rintro _ rfl
  have e:h.length=(h.set id (srB (srtL l) e ver)).length:=by simp
  rw [e]
  exact compact_plain' rfl
 have hlt:((l.length:Int)-0≤12)=True:=eq_true (by omega)
 have hlt2:((l.length:Int)≤12)=True:=eq_true (by omega)
 have hi:=fun base=>run_insertion (base:=base) hg hl
 refine callL_run func161 rfl rfl ?_
 have hsp:=@Nat.succ_ne_zero;repeat' (first|simp (disch:=first|exact dq|fail) only [go_sem,↓reduceIte,hsp]|refine WP_drw ?_|refine cnd_intro (fun hsp=>?_) fun hsp=>?_)
 rw [WP_loop1]
 have hsp:=@Nat.succ_ne_zero;repeat' (first|simp (disch:=first|exact dq|fail) only [go_sem,↓reduceIte,hsp,hlt,hlt2,hi,Int.sub_zero]|refine WP_drw ?_|refine cnd_intro (fun hsp=>?_) fun hsp=>?_)
 exact hend rfl
theorem run_sort {base id ver:Nat} {h:Heap} {l:List Int} (hg:h[id]?=some (srB l 3 ver)) (hl:l.length≤12) :
  callL prog raw base (.fn 149 [] []) [.slice (some ⟨id,ver,0⟩) l.length l.length] h=some (.tuple [],h.set id (srB (srtL l) 3 ver)):=by
 have hend:∀ {H:Heap},H=h.set id (srB (srtL l) 3 ver)→compact h.length (.tuple []) H=some (.tuple [],h.set id (srB (srtL l) 3 ver)):=by
  rintro _ rfl
  have e:h.length=(h.set id (srB (srtL l) 3 ver)).length:=by simp
  rw [e]
  exact compact_plain' rfl
 have c1:convA prog 163 3 (.int .i64 (l.length:Int))=some (.int .u64 (l.length:Int)):=by
  simp only [convA,underlying3,Fc.ik163,wrapU]
  rw [Nat.mod_eq_of_lt (by omega)]
 have e1:=fun base=>run_len (base:=base) (h:=h) hl
 have e2:=fun base=>run_pdq (base:=base) (k:=lenT l.length) hg hl
 refine callL_run func149 rfl rfl ?_
 have hsp:=@Nat.succ_ne_zero;repeat' (first|simp (disch:=first|exact dq|fail) only [go_sem,↓reduceIte,hsp,c1,e1,e2]|refine WP_drw ?_|refine cnd_intro (fun hsp=>?_) fun hsp=>?_)
 exact hend rfl
end Go.AM
namespace Go.AM
theorem splice_mid:∀ (vs pre c d:List AVal),c.length=vs.length→splice (pre++c++d) pre.length vs=pre++vs++d
 | [],pre,c,d,h=>by rw [List.eq_nil_of_length_eq_zero h];rfl
 | v :: vs,pre,[],d,h=>by simp at h
 | v :: vs,pre,x :: c,d,h=>by
  have:=splice_mid vs (pre++[v]) c d (by simpa using h)
  rw [splice]
  rw [show (pre++x :: c++d).set pre.length v=pre++[v]++c++d by simp]
  rw [show pre.length+1=(pre++[v]).length by simp,this]
  simp
theorem stQ_rowE {α:Type} {E:Enc α} {e:TypeId} {l:List α} {i base id ver:Nat} {x:α} {K:ABlk→Heap} (hi:i<l.length) (hs:(E.cells x).all AVal.scalar=true) (hb:base≤id) :
  stQ base id (some (rowE E e l ver)) ver (i * E.z) (E.cells x) K=some (K (rowE E e (l.set i x) ver)):=by
 have hle:i * E.z+E.z≤l.length * E.z:=by rw [← Nat.succ_mul];exact Nat.mul_le_mul_right _ hi
 have e1:flat E l=(flat E l).take (i * E.z)++((flat E l).drop (i * E.z)).take E.z++(flat E l).drop ((i+1) * E.z):=by
  rw [List.append_assoc,Nat.succ_mul,← List.drop_drop,List.take_append_drop,List.take_append_drop]
 have hl:((flat E l).take (i * E.z)).length=i * E.z:=by rw [List.length_take,flat_len];omega
 have key:splice (flat E l) (i * E.z) (E.cells x)=flat E (l.set i x):=by
  rw [flat_set E hi]
  have:=splice_mid (E.cells x) ((flat E l).take (i * E.z)) (((flat E l).drop (i * E.z)).take E.z) ((flat E l).drop ((i+1) * E.z)) (by rw [E.len,List.length_take,List.length_drop,flat_len];omega)
  rwa [hl,← e1] at this
 unfold rowE
 rw [stQ_own hb (by rw [E.len,flat_len];exact hle) hs,key]
theorem Own.setRow {α β:Type} {E:Enc α} {E2:Enc β} {e e2:TypeId} {b a ver:Nat} {h:Heap} {v:AVal} {l:List α} {m:List β} {k:ABlk} (x:Own E2 e2 b h v m) (hg:h[a]?=some (rowE E e l ver)) (hne:e2 ≠ e):Own E2 e2 b (h.set a k) v m:=by
 rcases x with q|⟨id,u,e1,g,e3,e4⟩
 ·exact .inl q
 ·have hia:id ≠ a:=by
   rintro rfl
   rw [g] at hg
   simp only [rowE,Option.some.injEq,ABlk.mk.injEq,ABody.cells.injEq] at hg
   exact hne hg.1.2.1
  exact .inr ⟨id,u,e1,by rw [List.getElem?_set_ne (fun q=>hia q.symm)];exact g,e3,e4⟩
theorem OwnE.setRow {α β:Type} {E:Enc α} {E2:Enc β} {e e2:TypeId} {b a ver:Nat} {h:Heap} {v:AVal} {l:List α} {m:List β} {k:ABlk} (x:OwnE E2 e2 b h v m) (hg:h[a]?=some (rowE E e l ver)) (hne:e2 ≠ e):OwnE E2 e2 b (h.set a k) v m :=
 x.imp (fun q=>q.setRow hg hne) id
theorem stQ_cellE {α:Type} {E:Enc α} {e:TypeId} {l:List α} {i o base id ver:Nat} {x y:α} {a:AVal} {K:ABlk→Heap} (hx:l[i]?=some x) (ho:o<E.z) (hc:(E.cells x).set o a=E.cells y) (ha:a.scalar=true) (hb:base≤id) :
  stQ base id (some (rowE E e l ver)) ver (i * E.z+o) [a] K=some (K (rowE E e (l.set i y) ver)):=by
 have hi:=(List.getElem?_eq_some_iff.1 hx).1
 have hle:i * E.z+E.z≤l.length * E.z:=by rw [← Nat.succ_mul];exact Nat.mul_le_mul_right _ hi
 have e1:flat E l=(flat E l).take (i * E.z)++E.cells x++(flat E l).drop ((i+1) * E.z):=by
  rw [← flat_get E hx,List.append_assoc,Nat.succ_mul,← List.drop_drop,List.take_append_drop,List.take_append_drop]
 have hl:((flat E l).take (i * E.z)).length=i * E.z:=by rw [List.length_take,flat_len];omega
 have key:(flat E l).set (i * E.z+o) a=flat E (l.set i y):=by
  rw [flat_set E hi,← hc]
  conv=>lhs;rw [e1]
  rw [List.append_assoc,List.set_append_right _ _ (by omega),hl,Nat.add_sub_cancel_left,List.set_append_left _ _ (by rw [E.len];exact ho),List.append_assoc]
 unfold rowE
 rw [stQ_own hb (by rw [flat_len,List.length_cons,List.length_nil];omega) (by simp [ha])]
 show some (K ⟨.cells ((flat E l).set (i * E.z+o) a) e true false,ver⟩)=_
 rw [key]
end Go.AM
