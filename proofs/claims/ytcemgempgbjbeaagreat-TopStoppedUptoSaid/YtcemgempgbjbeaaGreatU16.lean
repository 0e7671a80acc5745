/-
  Contracts: the breaks of a part that nothing excludes, one behind the other.
-/
import Derived.Test.YtcemgempgbjbeaaGreatU15
set_option linter.unusedSimpArgs false
set_option linter.unusedVariables false
namespace Go.AM
namespace F4
open Go.Proofs.Tryz
attribute [-go_sem] put_ne put_same
attribute [local go_sem ↓] put_if
def ptrB (v:AVal):ABlk:=⟨.cells [v] 213 false false,0⟩
def boolB (b:Bool):ABlk:=⟨.cells [.bool b] 4 false false,0⟩
def intB (n:Int):ABlk:=⟨.cells [.int .i64 n] 3 false false,0⟩
def mdB (b:Brk) (x:Nat):ABlk:=⟨.cells (mdC b x) 227 false false,0⟩
theorem nckP {a b c:Nat}:nilCheckA (.ptr (some ⟨a,b,c⟩))=some (.ptr (some ⟨a,b,c⟩)):=rfl
attribute [go_sem] nckP
theorem mark_load {H:Heap} {mid k:Nat} {ms:List (List Bool)} {n:Nat} (hg:H[mid]?=some (rowE encM 244 ms 0)) (hk:k<ms.length) (hl:ms.length=n) (hm:∀ m ∈ ms,m.length=12) (hn:n≤1000) :
  indexAddrA prog 230 (.slice (some ⟨mid,0,0⟩) n n) (.int .i64 (k:Int))=some (.ptr (some ⟨mid,0,k * 12⟩)) ∧
  ldB (some (true,12)) H[mid]? 0 (k * 12)=some (.agg ((ms.getD k []).map .bool)) ∧
  ∀ i:Nat,i<12→indexAddrA prog 244 (.ptr (some ⟨mid,0,k * 12⟩)) (.int .i64 (i:Int))=some (.ptr (some ⟨mid,0,k * 12+i⟩)) ∧
  ldB (some (false,1)) H[mid]? 0 (k * 12+i)=some (.bool ((ms.getD k []).getD i false)):=by
 have hR:Rows encM H (.slice (some ⟨mid,0,0⟩) n n) ms:=Rows.own hg hl.symm (by omega)
 have hx:=getD_some (d:=([]:List Bool)) hk
 have hml:=hm _ (List.mem_of_getElem? hx)
 obtain ⟨h1,h2⟩:=rows_get (P:=prog) hR Fc.el230 Fc.ar230 Fc.ty244 hx
 have hz:encM.z=12:=rfl
 simp only [elAdr,ARef.add,Nat.zero_add,Nat.add_zero,hz] at h1 h2
 rw [encM_cells hml,load_eq,Fc.ty244] at h2
 refine ⟨h1,h2,fun i hi=>⟨?_,?_⟩⟩
 ·rw [adr_arr Fc.ar244 (by omega) (by omega),Int.toNat_natCast,Nat.mul_one]
 ·have h3:=hR.cell (P:=prog) (t:=4) (o:=i) Fc.ty4 hx (a:=.bool ((ms.getD k []).getD i false)) (by rw [encM_cells hml,List.getElem?_map,getD_some (d:=false) (show i<(ms.getD k []).length by omega)];rfl)
  simp only [elAdr,ARef.add,Nat.zero_add,hz] at h3
  rw [load_eq,Fc.ty4] at h3
  exact h3
set_option maxHeartbeats 1000000 in
theorem run_breaks {base:Nat} {h:Heap} {v:AVal} {L:Lom} {bad:List Int} {ms:List (List Bool)} {k:Nat} (hb:base≤h.length) (hD:DeskAt h v L bad ms) (hpl:L.ps.length≤6) (hk:k<L.ps.length) :
  callL prog raw base (.fn 180 [] []) [v,.int .i64 (k:Int)] h=some (.fn 240 [] [.ptr (some ⟨h.length,0,0⟩),.ptr (some ⟨h.length+2,0,0⟩),.ptr (some ⟨h.length+1,0,0⟩)],h++[ptrB v]++[intB k]++[boolB (freeB (ms.getD k []))]):=by
 obtain ⟨id,mid,pv,sv,bv,rfl,g1,g2,g3,g4,g5,g6,g7⟩:=hD
 rw [deskB] at g1
 have hi:=lt_of_get g1
 have hm:=lt_of_get g5
 obtain ⟨q1,q2,q3⟩:=mark_load (k:=k) g5 (by omega) g6 g7 (show L.ps.length≤1000 by omega)
 have hx:=getD_some (d:=([]:List Bool)) (show k<ms.length by omega)
 have hml:=g7 _ (List.mem_of_getElem? hx)
 have hef:=eqFree hml
 have hbu:buildA prog 244 []=some (.agg [.bool false,.bool false,.bool false,.bool false,.bool false,.bool false,.bool false,.bool false,.bool false,.bool false,.bool false,.bool false]):=by kernel_rfl
 refine callL_raw func180 rfl (by kernel_rfl) ?_
 have hsp:=@Nat.succ_ne_zero;repeat' (first|simp (disch:=first|exact dq|fail) only [go_sem,↓reduceIte,hsp,g1,q1,q2,hbu,hef]|refine WP_drw ?_|refine cnd_intro (fun hsp=>?_) fun hsp=>?_)
 rfl
def BoxAt (H:Heap) (dp fp pp:Nat) (v:AVal) (k:Nat) (b:Bool):Prop:=H[dp]?=some (ptrB v)∧H[fp]?=some (boolB b)∧H[pp]?=some (intB k)
theorem BoxAt.ext {h H:Heap} {dp fp pp k:Nat} {v:AVal} {b:Bool} (x:BoxAt h dp fp pp v k b) (e:Ext h H):BoxAt H dp fp pp v k b:=⟨e.get x.1,e.get x.2.1,e.get x.2.2⟩
theorem spo_len {L:Lom} {b:Brk} (hrl:∀ p ∈ L.ps,p.rib.length≤1000):(spo L b).length≤1000 * (b.2.2+1-b.2.1).toNat:=by
 have q:=spotsR_len (p:=L.ps.getD b.1.toNat prt0) (a:=b.2.1.toNat) (n:=(b.2.2+1-b.2.1).toNat) _ (Nat.le_refl _)
 have e:spotsR (L.ps.getD b.1.toNat prt0) b.2.1.toNat (b.2.2+1-b.2.1).toNat (L.ps.getD b.1.toNat prt0).rib.length=spo L b:=by unfold spotsR spo spotsN;rw [List.take_length]
 rw [e] at q
 refine Nat.le_trans q (Nat.mul_le_mul_right _ ?_)
 by_cases h:b.1.toNat<L.ps.length
 ·exact hrl _ (List.mem_of_getElem? (getD_some h))
 ·rw [List.getD_eq_getElem?_getD,List.getElem?_eq_none (by omega)]
  simp [prt0]
set_option maxHeartbeats 4000000 in
theorem yields_breaks {base L' dp fp pp k:Nat} {v:AVal} {L:Lom} {bad:List Int} {ms:List (List Bool)} {I:Nat→Heap→Prop} (hc:chkM L=0) (hk:k<L.ps.length) (hbl:bad.length≤10) (hbi:∀ i ∈ bad,0≤i∧i<(L.ss.length:Int)) (hrl:∀ p ∈ L.ps,p.rib.length≤1000)
  (hI:∀ j H,I j H→base≤H.length∧BoxAt H dp fp pp v k (freeB (ms.getD k []))∧DeskAt H v L bad ms) :
  Yields prog raw base L' (.fn 240 [] [.ptr (some ⟨dp,0,0⟩),.ptr (some ⟨fp,0,0⟩),.ptr (some ⟨pp,0,0⟩)]) (made L bad ms k).length (fun j=>[.agg (mdC ((made L bad ms k).getD j (brk0,0)).1 ((made L bad ms k).getD j (brk0,0)).2)]) I:=by
 intro J S H0 hLn hJ happ hy h0
 obtain ⟨k1,k2,k3,k4,k5,k6⟩:=chkM_ok hc
 obtain ⟨T,eT⟩:=Int.eq_ofNat_of_zero_le (show 0≤L.T by omega)
 have eT2:L.T.toNat=T:=by omega
 obtain ⟨m,em⟩:∃ m,m=ms.getD k []:=⟨_,rfl⟩
 have hle:(made L bad ms k).length=(brkL k m T).length:=by rw [made,List.length_map,em,eT2]
 obtain ⟨hb0,⟨b1,b2,b3⟩,id,mid,pv,sv,bv,rfl,g1,g2,g3,g4,g5,g6,g7⟩:=hI 0 H0 (hJ 0 H0 h0).1
 rw [deskB,eT] at g1
 rw [ptrB] at b1
 refine ret_raw (Φ:=fun _ H'=>J (made L bad ms k).length H' ∨ S H') func240 rfl (by kernel_rfl) ?_
 have hsp:=@Nat.succ_ne_zero;repeat' (first|simp (disch:=first|exact dq|fail) only [go_sem,↓reduceIte,hsp,b1,g1]|refine WP_drw ?_|refine cnd_intro (fun hsp=>?_) fun hsp=>?_)
 clear b1 b2 b3 g1 g2 g3 g4 g5 g6 g7
 refine WP_count [(5,9),(15,86)] 0 T (Nat.zero_le _) (fun _ n fr h'=>fr 15=.int .i64 (n:Int)∧J (brkN k m T n).length h') ?_ ?_ ?_
 ·exact ⟨by (simp (disch:=first|exact dq|fail) only [go_sem,↓reduceIte,Int.natCast_zero];first|done|rfl),h0⟩
 ·rintro n fr H hn0 hn hA ⟨r15,hJ1⟩
  have p0:=hA 0 rfl
  have p1:=hA 1 rfl
  have p2:=hA 2 rfl
  have p3:=hA 3 rfl
  have p14:=hA 14 rfl
  try simp (disch:=first|exact dq|fail) only [go_sem,↓reduceIte] at p0 p1 p2 p3 p14
  have hnT:n<T:=hn
  have hlt:((n:Int)<(T:Int))=True:=eq_true (by omega)
  have hsp:=@Nat.succ_ne_zero;repeat' (first|simp (disch:=first|exact dq|fail) only [go_sem,↓reduceIte,hsp,r15,p0,p1,p2,p3,p14,hlt]|refine WP_drw ?_|refine cnd_intro (fun hsp=>?_) fun hsp=>?_)
  refine WP_count [(6,9),(19,85)] 0 (runF (fun t=>!m.getD t false) n (T-n)) (Nat.zero_le _) (fun _ d fr h'=>fr 6=.int .i64 ((n+d:Nat):Int)∧J ((brkN k m T n).length+d) h') ?_ ?_ ?_
  ·exact ⟨by (simp (disch:=first|exact dq|fail) only [go_sem,↓reduceIte,Int.natCast_zero];first|done|rfl),hJ1⟩
  ·rintro d fr2 H2 hd0 hd hA2 ⟨r6,hJ2⟩
   have u0:=hA2 0 rfl
   have u1:=hA2 1 rfl
   have u2:=hA2 2 rfl
   have u3:=hA2 3 rfl
   have u5:=hA2 5 rfl
   have u14:=hA2 14 rfl
   have u15:=hA2 15 rfl
   try simp (disch:=first|exact dq|fail) only [go_sem,↓reduceIte,p0,p1,p2,p3,p14] at u0 u1 u2 u3 u5 u14 u15
   have u15:=hA2 15 rfl;simp (disch:=first|exact dq|fail) only [go_sem,↓reduceIte,r15] at u15
   have hrl2:=runF_le (p:=fun t=>!m.getD t false) (n:=T-n) (a:=n)
   have hp:=runF_lt hd
   obtain ⟨hb0,⟨b1,b2,b3⟩,id',mid,pv,sv,bv,ev,g1,g2,g3,g4,g5,g6,g7⟩:=hI _ H2 (hJ _ H2 hJ2).1
   cases ev
   rw [deskB,eT] at g1
   rw [ptrB] at b1
   rw [boolB,← em] at b2
   rw [intB] at b3
   have hlt2:(((n+d:Nat):Int)<(T:Int))=True:=eq_true (by omega)
   have lb1:=lt_of_get b1
   have lb3:=lt_of_get b3
   have lg1:=lt_of_get g1
   obtain ⟨q1,q2,q3⟩:=mark_load (k:=k) g5 (by omega) g6 g7 (show L.ps.length≤1000 by omega)
   obtain ⟨q4,q5⟩:=q3 (n+d) (by omega)
   have hmk:(ms.getD k []).getD (n+d) false=false:=by rw [← em];simpa using hp
   rw [hmk] at q5
   have hlB:∀ {A:Heap},lenOpA prog (H2++A) 35 bv=some (.int .i64 (bad.length:Int)):=fun {A}=>lenI g4.app
   cases hf:freeB m with
   | true =>
    rw [hf] at b2
    have hsp:=@Nat.succ_ne_zero;repeat' (first|simp (disch:=first|exact dq|fail) only [go_sem,↓reduceIte,hsp,r6,u0,u1,u2,u3,u5,u14,u15,hlt2,b1,b2,b3,g1,hlB]|refine WP_drw ?_|refine cnd_intro (fun hsp=>?_) fun hsp=>?_)
    refine WP_count [(8,9),(53,81)] 0 bad.length (Nat.zero_le _) (fun _ x fr h'=>fr 53=.int .i64 (x:Int)∧Ext (H2++[mdB ((k:Int),(n:Int),((n+d:Nat):Int)) (bitN L bad ((k:Int),(n:Int),((n+d:Nat):Int)) x)]) h') ?_ ?_ ?_
    ·exact ⟨by (simp (disch:=first|exact dq|fail) only [go_sem,↓reduceIte,Int.natCast_zero];first|done|rfl),.refl⟩
    ·rintro x fr3 H3 hx0 hx hA3 ⟨r53,xH3⟩
     have w0:=hA3 0 rfl
     have w1:=hA3 1 rfl
     have w2:=hA3 2 rfl
     have w3:=hA3 3 rfl
     have w5:=hA3 5 rfl
     have w6:=hA3 6 rfl
     have w7:=hA3 7 rfl
     have w14:=hA3 14 rfl
     have w15:=hA3 15 rfl
     have w51:=hA3 51 rfl
     have w52:=hA3 52 rfl
     try simp (disch:=first|exact dq|fail) only [go_sem,↓reduceIte,u0,u1,u2,u3,u5,u14,u15] at w0 w1 w2 w3 w5 w6 w7 w14 w15 w51 w52
     have hlt3:((x:Int)<(bad.length:Int))=True:=eq_true (by omega)
     have xh3:Ext H2 H3:=(Ext.app .refl).trans xH3
     obtain ⟨i,ei⟩:∃ i,i=bad.getD x 0:=⟨_,rfl⟩
     have hib:=hbi i (by rw [ei];exact getD_mem hx)
     have hIB:Ints H3 bv bad:=g4.ext xh3
     have hl0:=loadI hIB hx
     have ha0:=adrI (i:=(x:Int)) (by omega) hIB (by omega)
     rw [← ei] at hl0
     rw [Int.toNat_natCast] at ha0
     obtain ⟨s,es⟩:∃ s,s=L.ss.getD i.toNat sgt0:=⟨_,rfl⟩
     have hsg:=getD_some (d:=sgt0) (show i.toNat<L.ss.length by omega)
     rw [← es] at hsg
     have c1:=xh3.get b1
     have c3:=xh3.get b3
     have cg:=xh3.get g1
     have hb3:=xH3.len
     simp only [List.length_append,List.length_cons,List.length_nil] at hb3
     have ct:H3[H2.length]?=some (mdB ((k:Int),(n:Int),((n+d:Nat):Int)) (bitN L bad ((k:Int),(n:Int),((n+d:Nat):Int)) x)):=xH3.get (by simp)
     have hpk:=k5 _ (List.mem_of_getElem? (getD_some (d:=prt0) hk))
     obtain ⟨zv,H4,e1,x1,o1⟩:=run_spots (base:=base) (h:=H3) (L:=L) (pv:=pv) (sv:=sv) (b:=((k:Int),(n:Int),((n+d:Nat):Int))) (k:=k) (by omega) (g2.ext xh3) g3.one (getD_some (d:=prt0) hk) rfl (by show (0:Int)≤(n:Int);omega) (by show -1000≤((n+d:Nat):Int)∧((n+d:Nat):Int)≤1000;omega) (by show (n:Int)≤1000;omega) (by omega) (hrl _ (List.mem_of_getElem? (getD_some (d:=prt0) hk)))
     have hsp:spotsN (L.ps.getD k prt0) (n:Int).toNat (((n+d:Nat):Int)+1-(n:Int)).toNat=spo L ((k:Int),(n:Int),((n+d:Nat):Int)):=rfl
     simp only [encB,eT] at e1
     dsimp only at o1
     rw [hsp] at o1
     have hspl:=spo_len (L:=L) (b:=((k:Int),(n:Int),((n+d:Nat):Int))) hrl
     have hspl2:1000 * (((n+d:Nat):Int)+1-(n:Int)).toNat≤1000 * 2001:=Nat.mul_le_mul_left _ (by omega)
     have oR:=o1.rows (by dsimp only at hspl;omega)
     obtain ⟨ha1,hl1⟩:=rows_get (P:=prog) (g3.ext (xh3.trans x1)) Fc.el60 Fc.ar60 Fc.ty113 hsg
     rw [Int.toNat_of_nonneg (by omega)] at ha1
     have hany:∀ {base:Nat},callL prog raw base (.fn 241 [] []) [zv,.fn 242 [.agg (encS.cells s)] []] H4=some (.bool (hit L ((k:Int),(n:Int),((n+d:Nat):Int)) i),H4):=fun {base}=>by
      unfold hit
      rw [← es]
      exact anyF_T (hasB s) oR (fun base y hy=>run_has)
     simp only [encS] at ha1 hl1 hany
     simp only [mdB,mdC] at ct
     have ct4:=x1.get ct
     have lt4:=lt_of_get ct4
     have c14:=x1.get c1
     have cg4:=x1.get cg
     have hbx:=bitN_lt (L:=L) (bad:=bad) (b:=((k:Int),(n:Int),((n+d:Nat):Int))) x
     have hpx:2 ^ x≤2 ^ 10:=Nat.pow_le_pow_right (by decide) (by omega)
     have hsh:=shlN (t:=3) (k:=x) (by omega)
     have hor:=orN (t:=3) (a:=bitN L bad ((k:Int),(n:Int),((n+d:Nat):Int)) x) (b:=2 ^ x) (by omega) (by omega)
     cases hh:hit L ((k:Int),(n:Int),((n+d:Nat):Int)) i with
     | true =>
      rw [hh] at hany
      have hsp:=@Nat.succ_ne_zero;repeat' (first|simp (disch:=first|exact dq|fail) only [go_sem,↓reduceIte,hsp,r53,w0,w1,w2,w3,w5,w6,w7,w14,w15,w51,w52,hlt3,ha0,hl0,c1,cg,ct,e1,c14,cg4,ct4,ha1,hl1,hany,hsh,hor]|refine WP_drw ?_|refine cnd_intro (fun hsp=>?_) fun hsp=>?_)
      refine ⟨agq,by omega,?_⟩
      rw [bitN,← ei,hh,if_pos rfl]
      have e:=(xH3.trans x1).set2 (i:=H2.length) (k:=mdB ((k:Int),(n:Int),((n+d:Nat):Int)) (bitN L bad ((k:Int),(n:Int),((n+d:Nat):Int)) x ||| 2 ^ x)) (by simp)
      rw [set_eq rfl] at e
      exact e
     | false =>
      rw [hh] at hany
      have hsp:=@Nat.succ_ne_zero;repeat' (first|simp (disch:=first|exact dq|fail) only [go_sem,↓reduceIte,hsp,r53,w0,w1,w2,w3,w5,w6,w7,w14,w15,w51,w52,hlt3,ha0,hl0,c1,cg,ct,e1,c14,cg4,ha1,hl1,hany]|refine WP_drw ?_|refine cnd_intro (fun hsp=>?_) fun hsp=>?_)
      refine ⟨agq,by omega,?_⟩
      rw [bitN,← ei,hh,if_neg (by simp)]
      exact xH3.trans x1
    ·rintro fr3 H3 hA3 ⟨r53,xH3⟩
     have w0:=hA3 0 rfl
     have w1:=hA3 1 rfl
     have w2:=hA3 2 rfl
     have w3:=hA3 3 rfl
     have w5:=hA3 5 rfl
     have w6:=hA3 6 rfl
     have w7:=hA3 7 rfl
     have w14:=hA3 14 rfl
     have w15:=hA3 15 rfl
     have w51:=hA3 51 rfl
     have w52:=hA3 52 rfl
     try simp (disch:=first|exact dq|fail) only [go_sem,↓reduceIte,u0,u1,u2,u3,u5,u14,u15] at w0 w1 w2 w3 w5 w6 w7 w14 w15 w51 w52
     have hlt3:((bad.length:Int)<(bad.length:Int))=False:=eq_false (by omega)
     have xh3:Ext H2 H3:=(Ext.app .refl).trans xH3
     have ct:H3[H2.length]?=some (mdB ((k:Int),(n:Int),((n+d:Nat):Int)) (bits L bad ((k:Int),(n:Int),((n+d:Nat):Int)))):=xH3.get (by simp [bits])
     simp only [mdB,mdC] at ct
     have hJ3:J ((brkN k m T n).length+d) H3:=by obtain ⟨t,rfl⟩:=xh3;exact happ _ _ _ hJ2
     have hbg:=brkL_get (k:=k) hnT hd
     have hgm:(made L bad ms k).getD ((brkN k m T n).length+d) (brk0,0)=(((k:Int),(n:Int),((n+d:Nat):Int)),bits L bad ((k:Int),(n:Int),((n+d:Nat):Int))):=by
      rw [made,← em,eT2,List.getD_eq_getElem?_getD,List.getElem?_map,hbg];rfl
     obtain ⟨yb,H5,ey,_,yt,yf⟩:=hy _ H3 (by rw [hle];exact (List.getElem?_eq_some_iff.1 hbg).1) hJ3
     simp only [hgm,mdC] at ey
     have w6:=hA3 6 rfl;simp (disch:=first|exact dq|fail) only [go_sem,↓reduceIte,r6] at w6
     cases yb with
     | true =>
      have hsp:=@Nat.succ_ne_zero;repeat' (first|simp (disch:=first|exact dq|fail) only [go_sem,↓reduceIte,hsp,r53,w0,w1,w2,w3,w5,w6,w7,w14,w15,w51,w52,w6,hlt3,ct,ey]|refine WP_drw ?_|refine cnd_intro (fun hsp=>?_) fun hsp=>?_)
      exact ⟨agq,by omega,yt rfl⟩
     | false =>
      have hsp:=@Nat.succ_ne_zero;repeat' (first|simp (disch:=first|exact dq|fail) only [go_sem,↓reduceIte,hsp,r53,w0,w1,w2,w3,w5,w6,w7,w14,w15,w51,w52,w6,hlt3,ct,ey]|refine WP_drw ?_|refine cnd_intro (fun hsp=>?_) fun hsp=>?_)
      exact .inr (yf rfl)
   | false =>
    rw [hf] at b2
    have hsp:=@Nat.succ_ne_zero;repeat' (first|simp (disch:=first|exact dq|fail) only [go_sem,↓reduceIte,hsp,r6,u0,u1,u2,u3,u5,u14,u15,hlt2,b1,b2,b3,g1,q1,q4,q5,hlB]|refine WP_drw ?_|refine cnd_intro (fun hsp=>?_) fun hsp=>?_)
    refine WP_count [(8,9),(53,81)] 0 bad.length (Nat.zero_le _) (fun _ x fr h'=>fr 53=.int .i64 (x:Int)∧Ext (H2++[mdB ((k:Int),(n:Int),((n+d:Nat):Int)) (bitN L bad ((k:Int),(n:Int),((n+d:Nat):Int)) x)]) h') ?_ ?_ ?_
    ·exact ⟨by (simp (disch:=first|exact dq|fail) only [go_sem,↓reduceIte,Int.natCast_zero];first|done|rfl),.refl⟩
    ·rintro x fr3 H3 hx0 hx hA3 ⟨r53,xH3⟩
     have w0:=hA3 0 rfl
     have w1:=hA3 1 rfl
     have w2:=hA3 2 rfl
     have w3:=hA3 3 rfl
     have w5:=hA3 5 rfl
     have w6:=hA3 6 rfl
     have w7:=hA3 7 rfl
     have w14:=hA3 14 rfl
     have w15:=hA3 15 rfl
     have w51:=hA3 51 rfl
     have w52:=hA3 52 rfl
     try simp (disch:=first|exact dq|fail) only [go_sem,↓reduceIte,u0,u1,u2,u3,u5,u14,u15] at w0 w1 w2 w3 w5 w6 w7 w14 w15 w51 w52
     have hlt3:((x:Int)<(bad.length:Int))=True:=eq_true (by omega)
     have xh3:Ext H2 H3:=(Ext.app .refl).trans xH3
     obtain ⟨i,ei⟩:∃ i,i=bad.getD x 0:=⟨_,rfl⟩
     have hib:=hbi i (by rw [ei];exact getD_mem hx)
     have hIB:Ints H3 bv bad:=g4.ext xh3
     have hl0:=loadI hIB hx
     have ha0:=adrI (i:=(x:Int)) (by omega) hIB (by omega)
     rw [← ei] at hl0
     rw [Int.toNat_natCast] at ha0
     obtain ⟨s,es⟩:∃ s,s=L.ss.getD i.toNat sgt0:=⟨_,rfl⟩
     have hsg:=getD_some (d:=sgt0) (show i.toNat<L.ss.length by omega)
     rw [← es] at hsg
     have c1:=xh3.get b1
     have c3:=xh3.get b3
     have cg:=xh3.get g1
     have hb3:=xH3.len
     simp only [List.length_append,List.length_cons,List.length_nil] at hb3
     have ct:H3[H2.length]?=some (mdB ((k:Int),(n:Int),((n+d:Nat):Int)) (bitN L bad ((k:Int),(n:Int),((n+d:Nat):Int)) x)):=xH3.get (by simp)
     have hpk:=k5 _ (List.mem_of_getElem? (getD_some (d:=prt0) hk))
     obtain ⟨zv,H4,e1,x1,o1⟩:=run_spots (base:=base) (h:=H3) (L:=L) (pv:=pv) (sv:=sv) (b:=((k:Int),(n:Int),((n+d:Nat):Int))) (k:=k) (by omega) (g2.ext xh3) g3.one (getD_some (d:=prt0) hk) rfl (by show (0:Int)≤(n:Int);omega) (by show -1000≤((n+d:Nat):Int)∧((n+d:Nat):Int)≤1000;omega) (by show (n:Int)≤1000;omega) (by omega) (hrl _ (List.mem_of_getElem? (getD_some (d:=prt0) hk)))
     have hsp:spotsN (L.ps.getD k prt0) (n:Int).toNat (((n+d:Nat):Int)+1-(n:Int)).toNat=spo L ((k:Int),(n:Int),((n+d:Nat):Int)):=rfl
     simp only [encB,eT] at e1
     dsimp only at o1
     rw [hsp] at o1
     have hspl:=spo_len (L:=L) (b:=((k:Int),(n:Int),((n+d:Nat):Int))) hrl
     have hspl2:1000 * (((n+d:Nat):Int)+1-(n:Int)).toNat≤1000 * 2001:=Nat.mul_le_mul_left _ (by omega)
     have oR:=o1.rows (by dsimp only at hspl;omega)
     obtain ⟨ha1,hl1⟩:=rows_get (P:=prog) (g3.ext (xh3.trans x1)) Fc.el60 Fc.ar60 Fc.ty113 hsg
     rw [Int.toNat_of_nonneg (by omega)] at ha1
     have hany:∀ {base:Nat},callL prog raw base (.fn 241 [] []) [zv,.fn 242 [.agg (encS.cells s)] []] H4=some (.bool (hit L ((k:Int),(n:Int),((n+d:Nat):Int)) i),H4):=fun {base}=>by
      unfold hit
      rw [← es]
      exact anyF_T (hasB s) oR (fun base y hy=>run_has)
     simp only [encS] at ha1 hl1 hany
     simp only [mdB,mdC] at ct
     have ct4:=x1.get ct
     have lt4:=lt_of_get ct4
     have c14:=x1.get c1
     have cg4:=x1.get cg
     have hbx:=bitN_lt (L:=L) (bad:=bad) (b:=((k:Int),(n:Int),((n+d:Nat):Int))) x
     have hpx:2 ^ x≤2 ^ 10:=Nat.pow_le_pow_right (by decide) (by omega)
     have hsh:=shlN (t:=3) (k:=x) (by omega)
     have hor:=orN (t:=3) (a:=bitN L bad ((k:Int),(n:Int),((n+d:Nat):Int)) x) (b:=2 ^ x) (by omega) (by omega)
     cases hh:hit L ((k:Int),(n:Int),((n+d:Nat):Int)) i with
     | true =>
      rw [hh] at hany
      have hsp:=@Nat.succ_ne_zero;repeat' (first|simp (disch:=first|exact dq|fail) only [go_sem,↓reduceIte,hsp,r53,w0,w1,w2,w3,w5,w6,w7,w14,w15,w51,w52,hlt3,ha0,hl0,c1,cg,ct,e1,c14,cg4,ct4,ha1,hl1,hany,hsh,hor]|refine WP_drw ?_|refine cnd_intro (fun hsp=>?_) fun hsp=>?_)
      refine ⟨agq,by omega,?_⟩
      rw [bitN,← ei,hh,if_pos rfl]
      have e:=(xH3.trans x1).set2 (i:=H2.length) (k:=mdB ((k:Int),(n:Int),((n+d:Nat):Int)) (bitN L bad ((k:Int),(n:Int),((n+d:Nat):Int)) x ||| 2 ^ x)) (by simp)
      rw [set_eq rfl] at e
      exact e
     | false =>
      rw [hh] at hany
      have hsp:=@Nat.succ_ne_zero;repeat' (first|simp (disch:=first|exact dq|fail) only [go_sem,↓reduceIte,hsp,r53,w0,w1,w2,w3,w5,w6,w7,w14,w15,w51,w52,hlt3,ha0,hl0,c1,cg,ct,e1,c14,cg4,ha1,hl1,hany]|refine WP_drw ?_|refine cnd_intro (fun hsp=>?_) fun hsp=>?_)
      refine ⟨agq,by omega,?_⟩
      rw [bitN,← ei,hh,if_neg (by simp)]
      exact xH3.trans x1
    ·rintro fr3 H3 hA3 ⟨r53,xH3⟩
     have w0:=hA3 0 rfl
     have w1:=hA3 1 rfl
     have w2:=hA3 2 rfl
     have w3:=hA3 3 rfl
     have w5:=hA3 5 rfl
     have w6:=hA3 6 rfl
     have w7:=hA3 7 rfl
     have w14:=hA3 14 rfl
     have w15:=hA3 15 rfl
     have w51:=hA3 51 rfl
     have w52:=hA3 52 rfl
     try simp (disch:=first|exact dq|fail) only [go_sem,↓reduceIte,u0,u1,u2,u3,u5,u14,u15] at w0 w1 w2 w3 w5 w6 w7 w14 w15 w51 w52
     have hlt3:((bad.length:Int)<(bad.length:Int))=False:=eq_false (by omega)
     have xh3:Ext H2 H3:=(Ext.app .refl).trans xH3
     have ct:H3[H2.length]?=some (mdB ((k:Int),(n:Int),((n+d:Nat):Int)) (bits L bad ((k:Int),(n:Int),((n+d:Nat):Int)))):=xH3.get (by simp [bits])
     simp only [mdB,mdC] at ct
     have hJ3:J ((brkN k m T n).length+d) H3:=by obtain ⟨t,rfl⟩:=xh3;exact happ _ _ _ hJ2
     have hbg:=brkL_get (k:=k) hnT hd
     have hgm:(made L bad ms k).getD ((brkN k m T n).length+d) (brk0,0)=(((k:Int),(n:Int),((n+d:Nat):Int)),bits L bad ((k:Int),(n:Int),((n+d:Nat):Int))):=by
      rw [made,← em,eT2,List.getD_eq_getElem?_getD,List.getElem?_map,hbg];rfl
     obtain ⟨yb,H5,ey,_,yt,yf⟩:=hy _ H3 (by rw [hle];exact (List.getElem?_eq_some_iff.1 hbg).1) hJ3
     simp only [hgm,mdC] at ey
     have w6:=hA3 6 rfl;simp (disch:=first|exact dq|fail) only [go_sem,↓reduceIte,r6] at w6
     cases yb with
     | true =>
      have hsp:=@Nat.succ_ne_zero;repeat' (first|simp (disch:=first|exact dq|fail) only [go_sem,↓reduceIte,hsp,r53,w0,w1,w2,w3,w5,w6,w7,w14,w15,w51,w52,w6,hlt3,ct,ey]|refine WP_drw ?_|refine cnd_intro (fun hsp=>?_) fun hsp=>?_)
      exact ⟨agq,by omega,yt rfl⟩
     | false =>
      have hsp:=@Nat.succ_ne_zero;repeat' (first|simp (disch:=first|exact dq|fail) only [go_sem,↓reduceIte,hsp,r53,w0,w1,w2,w3,w5,w6,w7,w14,w15,w51,w52,w6,hlt3,ct,ey]|refine WP_drw ?_|refine cnd_intro (fun hsp=>?_) fun hsp=>?_)
      exact .inr (yf rfl)
  ·rintro fr2 H2 hA2 ⟨r6,hJ2⟩
   have u0:=hA2 0 rfl
   have u1:=hA2 1 rfl
   have u2:=hA2 2 rfl
   have u3:=hA2 3 rfl
   have u5:=hA2 5 rfl
   have u14:=hA2 14 rfl
   have u15:=hA2 15 rfl
   try simp (disch:=first|exact dq|fail) only [go_sem,↓reduceIte,p0,p1,p2,p3,p14] at u0 u1 u2 u3 u5 u14 u15
   have u15:=hA2 15 rfl;simp (disch:=first|exact dq|fail) only [go_sem,↓reduceIte,r15] at u15
   obtain ⟨hb0,⟨b1,b2,b3⟩,id',mid,pv,sv,bv,ev,g1,g2,g3,g4,g5,g6,g7⟩:=hI _ H2 (hJ _ H2 hJ2).1
   cases ev
   rw [deskB,eT] at g1
   rw [ptrB] at b1
   rw [boolB,← em] at b2
   rw [intB] at b3
   rw [← brkN_step] at hJ2
   rcases runF_end (p:=fun t=>!m.getD t false) (a:=n) (n:=T-n) with hr|⟨hr,hr2⟩
   ·have hlt2:(((n+runF (fun t=>!m.getD t false) n (T-n):Nat):Int)<(T:Int))=False:=eq_false (by omega)
    have hsp:=@Nat.succ_ne_zero;repeat' (first|simp (disch:=first|exact dq|fail) only [go_sem,↓reduceIte,hsp,r6,u0,u1,u2,u3,u5,u14,u15,u15,hlt2,b1,b2,b3,g1]|refine WP_drw ?_|refine cnd_intro (fun hsp=>?_) fun hsp=>?_)
    exact ⟨agq,by omega,hJ2⟩
   ·have hlt2:(((n+runF (fun t=>!m.getD t false) n (T-n):Nat):Int)<(T:Int))=True:=eq_true (by omega)
    obtain ⟨q1,q2,q3⟩:=mark_load (k:=k) g5 (by omega) g6 g7 (show L.ps.length≤1000 by omega)
    obtain ⟨q4,q5⟩:=q3 (n+runF (fun t=>!m.getD t false) n (T-n)) (by omega)
    have hmk:m.getD (n+runF (fun t=>!m.getD t false) n (T-n)) false=true:=by simpa using hr2
    rw [← em,hmk] at q5
    have hf:freeB m=false:=by
     cases hf:freeB m with
     | false=>rfl
     | true=>rw [freeB_all hf (by omega)] at hmk;cases hmk
    rw [hf] at b2
    have hsp:=@Nat.succ_ne_zero;repeat' (first|simp (disch:=first|exact dq|fail) only [go_sem,↓reduceIte,hsp,r6,u0,u1,u2,u3,u5,u14,u15,u15,hlt2,b1,b2,b3,g1,q1,q4,q5]|refine WP_drw ?_|refine cnd_intro (fun hsp=>?_) fun hsp=>?_)
    exact ⟨agq,by omega,hJ2⟩
 ·rintro fr H hA ⟨r15,hJ1⟩
  have p0:=hA 0 rfl
  have p1:=hA 1 rfl
  have p2:=hA 2 rfl
  have p3:=hA 3 rfl
  have p14:=hA 14 rfl
  try simp (disch:=first|exact dq|fail) only [go_sem,↓reduceIte] at p0 p1 p2 p3 p14
  have hlt:((T:Int)<(T:Int))=False:=eq_false (by omega)
  have hsp:=@Nat.succ_ne_zero;repeat' (first|simp (disch:=first|exact dq|fail) only [go_sem,↓reduceIte,hsp,r15,p0,p1,p2,p3,p14,hlt]|refine WP_drw ?_|refine cnd_intro (fun hsp=>?_) fun hsp=>?_)
  rw [hle]
  exact .inl hJ1
end F4
end Go.AM
namespace Go.AM
namespace F4
abbrev Way:=Nat × List Brk
def wy0:Way:=(0,[])
def stepS (now:List Way) (b:Brk) (x:Nat) (next:List Way) (s:Nat):List Way :=
 if (now.getD s wy0).1=0 then next else
  next.set (s ||| x) ((next.getD (s ||| x) wy0).1+(now.getD s wy0).1,if (next.getD (s ||| x) wy0).1=0 ∨ (now.getD s wy0).2.length+1<(next.getD (s ||| x) wy0).2.length then (now.getD s wy0).2++[b] else (next.getD (s ||| x) wy0).2)
def stepN (now:List Way) (b:Brk) (x:Nat) (next:List Way):Nat→List Way
 | 0=>next
 | s+1=>stepS now b x (stepN now b x next s) s
def stepM (f:Brk→Nat→Bool) (now next:List Way) (q:Brk × Nat):List Way:=if f q.1 q.2=true then stepN now q.1 q.2 next now.length else next
def stepJ (f:Brk→Nat→Bool) (now:List Way) (l:List (Brk × Nat)):Nat→List Way
 | 0=>now
 | j+1=>stepM f now (stepJ f now l j) (l.getD j (brk0,0))
def wayN (L:Lom) (bad:List Int) (ms:List (List Bool)) (f:Brk→Nat→Bool):Nat→List Way
 | 0=>(List.replicate (2 ^ bad.length) wy0).set 0 (1,[])
 | k+1=>stepJ f (wayN L bad ms f k) (made L bad ms k) (made L bad ms k).length
def wayA (L:Lom) (bad:List Int) (ms:List (List Bool)) (f:Brk→Nat→Bool):List Way:=wayN L bad ms f L.ps.length
theorem stepS_len {now next:List Way} {b:Brk} {x s:Nat}:(stepS now b x next s).length=next.length:=by unfold stepS;split<;>simp
theorem stepN_len {now next:List Way} {b:Brk} {x:Nat}:∀ s,(stepN now b x next s).length=next.length
 | 0=>rfl
 | s+1=>by rw [stepN,stepS_len,stepN_len s]
theorem stepM_len {f:Brk→Nat→Bool} {now next:List Way} {q:Brk × Nat}:(stepM f now next q).length=next.length:=by unfold stepM;split;exact stepN_len _;rfl
theorem stepJ_len {f:Brk→Nat→Bool} {now:List Way} {l:List (Brk × Nat)}:∀ j,(stepJ f now l j).length=now.length
 | 0=>rfl
 | j+1=>by rw [stepJ,stepM_len,stepJ_len j]
theorem wayN_len {L:Lom} {bad:List Int} {ms:List (List Bool)} {f:Brk→Nat→Bool}:∀ k,(wayN L bad ms f k).length=2 ^ bad.length
 | 0=>by simp [wayN]
 | k+1=>by rw [wayN,stepJ_len,wayN_len k]
def tot (l:List Way):Nat:=(l.map (·.1)).sum
theorem tot_set:∀ {l:List Way} {i:Nat} {w:Way},i<l.length→tot (l.set i w)+(l.getD i wy0).1=tot l+w.1
 | [],i,w,h=>by simp at h
 | x :: l,0,w,_=>by simp [tot];omega
 | x :: l,i+1,w,h=>by
  have ih:=tot_set (l:=l) (i:=i) (w:=w) (by simpa using h)
  simp only [tot,List.set_cons_succ,List.map_cons,List.sum_cons,List.getD_cons_succ] at ih ⊢
  omega
theorem tot_get:∀ {l:List Way} {i:Nat},(l.getD i wy0).1≤tot l
 | [],i=>by simp [wy0]
 | x :: l,0=>by simp [tot]
 | x :: l,i+1=>by
  have ih:=tot_get (l:=l) (i:=i)
  simp only [tot,List.map_cons,List.sum_cons,List.getD_cons_succ] at ih ⊢
  omega
theorem tot_take {l:List Way} {s:Nat} (h:s<l.length):tot (l.take (s+1))=tot (l.take s)+(l.getD s wy0).1:=by
 have e:l.take (s+1)=l.take s++[l.getD s wy0]:=by
  rw [List.take_add_one,List.getElem?_eq_getElem h,List.getD_eq_getElem?_getD,List.getElem?_eq_getElem h];rfl
 rw [e]
 simp only [tot,List.map_append,List.sum_append,List.map_cons,List.map_nil,List.sum_cons,List.sum_nil,Nat.add_zero]
theorem tot_take_le {l:List Way} (s:Nat):tot (l.take s)≤tot l:=by
 have e:tot l=tot (l.take s)+tot (l.drop s):=by
  have:l=l.take s++l.drop s:=by simp
  conv=>lhs;rw [this]
  simp only [tot,List.map_append,List.sum_append]
 omega
def Below (n x:Nat):Prop:=∀ s,s<n→s ||| x<n
theorem stepN_tot {now next:List Way} {b:Brk} {x:Nat} (hl:next.length=now.length) (hx:Below now.length x):∀ s,s≤now.length→tot (stepN now b x next s)=tot next+tot (now.take s)
 | 0,_=>by simp [stepN,tot]
 | s+1,h=>by
  have ih:=stepN_tot (b:=b) hl hx s (by omega)
  rw [stepN,tot_take (by omega)]
  unfold stepS
  split
  ·rename_i h0;rw [ih,h0,Nat.add_zero]
  ·have:=tot_set (l:=stepN now b x next s) (i:=s ||| x) (w:=((List.getD (stepN now b x next s) (s ||| x) wy0).1+(now.getD s wy0).1,if (List.getD (stepN now b x next s) (s ||| x) wy0).1=0 ∨ (now.getD s wy0).2.length+1<(List.getD (stepN now b x next s) (s ||| x) wy0).2.length then (now.getD s wy0).2++[b] else (List.getD (stepN now b x next s) (s ||| x) wy0).2)) (by rw [stepN_len,hl];exact hx s (by omega))
   omega
theorem stepJ_tot {f:Brk→Nat→Bool} {now:List Way} {l:List (Brk × Nat)} (hx:∀ q ∈ l,Below now.length q.2):∀ j,j≤l.length→tot (stepJ f now l j)≤(j+1) * tot now
 | 0,_=>by simp [stepJ]
 | j+1,h=>by
  have ih:=stepJ_tot (f:=f) hx j (by omega)
  have e:(j+1+1) * tot now=(j+1) * tot now+tot now:=by rw [Nat.succ_mul]
  rw [stepJ]
  unfold stepM
  split
  ·rw [stepN_tot (stepJ_len j) (hx _ (List.mem_of_getElem? (getD_some (by omega)))) _ (Nat.le_refl _),List.take_length]
   omega
  ·omega
def shortW (k:Nat) (l:List Way):Prop:=∀ w ∈ l,w.2.length≤k
theorem shortW_get {k s:Nat} {l:List Way} (h:shortW k l):(l.getD s wy0).2.length≤k:=by
 by_cases hs:s<l.length
 ·exact h _ (List.mem_of_getElem? (getD_some hs))
 ·rw [List.getD_eq_getElem?_getD,List.getElem?_eq_none (by omega)];simp [wy0]
theorem stepS_short {now next:List Way} {b:Brk} {x s k:Nat} (h1:shortW k now) (h2:shortW (k+1) next):shortW (k+1) (stepS now b x next s):=by
 unfold stepS
 split
 ·exact h2
 ·intro w hw
  rcases List.mem_or_eq_of_mem_set hw with q|rfl
  ·exact h2 w q
  ·dsimp only
   split
   ·have:=shortW_get (s:=s) h1
    rw [List.length_append];simp only [List.length_cons,List.length_nil];omega
   ·exact shortW_get h2
theorem stepN_short {now next:List Way} {b:Brk} {x k:Nat} (h1:shortW k now) (h2:shortW (k+1) next):∀ s,shortW (k+1) (stepN now b x next s)
 | 0=>h2
 | s+1=>stepS_short h1 (stepN_short h1 h2 s)
theorem stepJ_short {f:Brk→Nat→Bool} {now:List Way} {l:List (Brk × Nat)} {k:Nat} (h:shortW k now):∀ j,shortW (k+1) (stepJ f now l j)
 | 0=>fun w hw=>Nat.le_succ_of_le (h w hw)
 | j+1=>by
  rw [stepJ]
  unfold stepM
  split
  ·exact stepN_short h (stepJ_short h j) _
  ·exact stepJ_short h j
theorem wayN_short {L:Lom} {bad:List Int} {ms:List (List Bool)} {f:Brk→Nat→Bool}:∀ k,shortW k (wayN L bad ms f k)
 | 0=>fun w hw=>by
  rcases List.mem_or_eq_of_mem_set hw with q|rfl
  ·rw [(List.mem_replicate.1 q).2];simp [wy0]
  ·simp
 | k+1=>stepJ_short (wayN_short k) _
theorem brkN_len {k T:Nat} {m:List Bool}:∀ n,n≤T→(brkN k m T n).length≤n * T
 | 0,_=>by simp [brkN]
 | n+1,h=>by
  have ih:=brkN_len (k:=k) (T:=T) (m:=m) n (by omega)
  have:=runF_le (p:=fun t=>!m.getD t false) (n:=T-n) (a:=n)
  have e:=brkN_step (k:=k) (T:=T) (n:=n) (m:=m)
  rw [Nat.succ_mul]
  omega
theorem made_len {L:Lom} {bad:List Int} {ms:List (List Bool)} {k:Nat} (hT:L.T≤12):(made L bad ms k).length≤144:=by
 have:=brkN_len (k:=k) (m:=ms.getD k []) (T:=L.T.toNat) L.T.toNat (Nat.le_refl _)
 rw [made,List.length_map,brkL]
 exact Nat.le_trans this (show L.T.toNat * L.T.toNat≤12 * 12 from Nat.mul_le_mul (by omega) (by omega))
theorem bits_below {L:Lom} {bad:List Int} {b:Brk}:Below (2 ^ bad.length) (bits L bad b):=fun s hs=>Nat.or_lt_two_pow hs (bitN_lt bad.length)
theorem made_below {L:Lom} {bad:List Int} {ms:List (List Bool)} {k:Nat}:∀ q ∈ made L bad ms k,Below (2 ^ bad.length) q.2:=fun q hq=>by
 obtain ⟨b,_,rfl⟩:=List.mem_map.1 hq
 exact bits_below
theorem wayN_tot {L:Lom} {bad:List Int} {ms:List (List Bool)} {f:Brk→Nat→Bool} (hT:L.T≤12):∀ k,tot (wayN L bad ms f k)≤145 ^ k
 | 0=>by
  have e:=tot_set (l:=List.replicate (2 ^ bad.length) wy0) (i:=0) (w:=(1,[])) (by simp;exact Nat.two_pow_pos _)
  have e2:tot (List.replicate (2 ^ bad.length) wy0)=0:=by simp [tot,wy0]
  simp only [wayN]
  omega
 | k+1=>by
  have ih:=wayN_tot (bad:=bad) (ms:=ms) (f:=f) hT k
  have h1:=stepJ_tot (f:=f) (now:=wayN L bad ms f k) (l:=made L bad ms k) (by rw [wayN_len];exact made_below) _ (Nat.le_refl _)
  have h2:=made_len (bad:=bad) (ms:=ms) (k:=k) hT
  rw [wayN,Nat.pow_succ,Nat.mul_comm]
  exact Nat.le_trans h1 (Nat.mul_le_mul (by omega) ih)
end F4
end Go.AM
namespace Go.AM
namespace F4
open Go.Proofs.Tryz
structure WyV where
 many:Int
 v:AVal
def encW:Enc WyV:=⟨2,fun w=>[.int .i64 w.many,norm w.v],fun _=>rfl,by decide⟩
theorem encW_sc:∀ y,(encW.cells y).all AVal.scalar=true:=fun y=>by
 have:(norm y.v).scalar=true:=by unfold norm;split<;>simp_all [AVal.scalar]
 simp only [encW,List.all_cons,this,List.all_nil]
 rfl
def RelW (lo:Nat) (H:Heap) (X:List Nat) (vs:List WyV) (l:List Way):Prop :=
 vs.length=l.length∧∀ (i:Nat) x w,vs[i]?=some x→l[i]?=some w→x.many=(w.1:Int)∧Own encB 67 lo H x.v w.2∧Off X x.v
section
variable {lo:Nat} {H H':Heap} {X:List Nat} {vs:List WyV} {l:List Way}
theorem RelW.ext (x:RelW lo H X vs l) (e:Ext H H'):RelW lo H' X vs l:=⟨x.1,fun i a w h1 h2=>⟨(x.2 i a w h1 h2).1,(x.2 i a w h1 h2).2.1.ext e,(x.2 i a w h1 h2).2.2⟩⟩
theorem RelW.set {i:Nat} {b:ABlk} (x:RelW lo H X vs l) (hi:i ∈ X):RelW lo (H.set i b) X vs l:=⟨x.1,fun j a w h1 h2=>by
 obtain ⟨q1,q2,q3⟩:=x.2 j a w h1 h2
 exact ⟨q1,q2.setOff q3 hi,q3⟩⟩
theorem RelW.more {i:Nat} (x:RelW lo H X vs l) (hi:H.length≤i):RelW lo H (i :: X) vs l:=⟨x.1,fun j a w h1 h2=>by
 obtain ⟨q1,q2,q3⟩:=x.2 j a w h1 h2
 refine ⟨q1,q2,fun r n c e hm=>?_⟩
 rcases List.mem_cons.1 hm with q|q
 ·have:=q2.lowid r n c e;omega
 ·exact q3 r n c e q⟩
theorem RelW.low {lo':Nat} (x:RelW lo H X vs l) (hb:lo'≤lo):RelW lo' H X vs l:=⟨x.1,fun j a w h1 h2=>by
 obtain ⟨q1,q2,q3⟩:=x.2 j a w h1 h2
 exact ⟨q1,q2.low hb,q3⟩⟩
theorem RelW.less {Y:List Nat} (x:RelW lo H X vs l) (hY:∀ i ∈ Y,i ∈ X):RelW lo H Y vs l:=⟨x.1,fun j a w h1 h2=>by
 obtain ⟨q1,q2,q3⟩:=x.2 j a w h1 h2
 exact ⟨q1,q2,fun r n c e hm=>q3 r n c e (hY _ hm)⟩⟩
theorem RelW.upd {i:Nat} {y:WyV} {w:Way} (x:RelW lo H X vs l) (h1:y.many=(w.1:Int)) (h2:Own encB 67 lo H y.v w.2) (h3:Off X y.v):RelW lo H X (vs.set i y) (l.set i w):=by
 refine ⟨by rw [List.length_set,List.length_set];exact x.1,fun j a u g1 g2=>?_⟩
 rw [List.getElem?_set] at g1 g2
 by_cases e:i=j
 ·subst e
  rw [if_pos rfl] at g1 g2
  split at g1
  ·split at g2
   ·cases g1;cases g2;exact ⟨h1,h2,h3⟩
   ·cases g2
  ·cases g1
 ·rw [if_neg e] at g1 g2
  exact x.2 j a u g1 g2
end
section
variable {α:Type} {E:Enc α} {P:Program} {base:Nat} {h:Heap} {v:AVal} {l:List α} {t e:TypeId} {zs:List AVal}
theorem rows_nilEq (hR:Rows E h v l) (hl:l ≠ []) (ht:P.underlying t=some (.slice e)):binA P .eql t v (.slice .none 0 0)=some (.bool false):=by
 rcases hR.2 with ⟨rfl,rfl⟩|⟨rfl,rfl⟩|⟨r,k,c,e,row,ro,rfl,_⟩
 ·exact absurd rfl hl
 ·exact absurd rfl hl
 ·simp [binA,eqT,eqDepth,ht,nilS]
theorem nilEq0 (ht:P.underlying t=some (.slice e)):binA P .eql t (.slice .none 0 0) (.slice .none 0 0)=some (.bool true):=by simp [binA,eqT,eqDepth,ht,nilS]
theorem app_empE (hR:Rows E h v l) (hl:l ≠ []) (hs:∀ y,(E.cells y).all AVal.scalar=true) (hsz:l.length<2147483648) (ht:elS P t=some (e,E.z,zs)) :
  appendA P base h t .emp v=some (.slice (some ⟨h.length,0,0⟩) l.length l.length,h++[rowE E e l 0]):=by
 have hn:l.length ≠ 0:=fun q=>hl (List.eq_nil_of_length_eq_zero q)
 simp only [appendA,ht,hR.lenA,hR.firstN,flat_scalar hs,if_true]
 rw [if_neg hn,if_pos (show l.length<2 ^ 31 by omega)]
 first|done|rfl
end
theorem run_cloneW {base:Nat} {h:Heap} {v:AVal} {vs:List WyV} (hR:Rows encW h v vs) (hl:vs ≠ []) (hs:vs.length<2147483648) :
  callL prog raw base (.fn 227 [] []) [v] h=some (.slice (some ⟨h.length,0,0⟩) vs.length vs.length,h++[rowE encW 217 vs 0]):=by
 have e:=rows_nilEq hR hl Fc.un297
 have ha:=fun base=>app_empE (base:=base) hR hl encW_sc hs Fc.el297
 refine callL_raw func227 rfl (by kernel_rfl) ?_
 have hsp:=@Nat.succ_ne_zero;repeat' (first|simp (disch:=first|exact dq|fail) only [go_sem,hsp,e,bs_emp Fc.el297,ha]|refine WP_drw ?_|refine cnd_intro (fun hsp=>?_) fun hsp=>?_)
theorem run_cloneB {base lo:Nat} {h:Heap} {v:AVal} {l:List Brk} (hO:Own encB 67 lo h v l) (hs:l.length<2147483648) :
  Ret prog raw base (.fn 228 [] []) [v] h (fun v' H=>Ext h H∧Own encB 67 h.length H v' l):=by
 by_cases hl:l=[]
 ·subst hl
  obtain rfl:v=.slice none 0 0:=by
   rcases hO with ⟨rfl,_⟩|⟨id,ver,rfl,_,_,h3⟩
   ·rfl
   ·simp at h3
  have e:=nilEq0 (P:=prog) Fc.un116
  refine ret_raw func228 rfl (by kernel_rfl) ?_
  have hsp:=@Nat.succ_ne_zero;repeat' (first|simp (disch:=first|exact dq|fail) only [go_sem,hsp,e]|refine WP_drw ?_|refine cnd_intro (fun hsp=>?_) fun hsp=>?_)
  exact ⟨.refl,Own.nil⟩
 ·have hR:=hO.rows (by omega)
  have e:=rows_nilEq hR hl Fc.un116
  have ha:=fun base=>app_empE (base:=base) hR hl encB_sc hs Fc.el116
  refine ret_raw func228 rfl (by kernel_rfl) ?_
  have hsp:=@Nat.succ_ne_zero;repeat' (first|simp (disch:=first|exact dq|fail) only [go_sem,hsp,e,bs_emp Fc.el116,ha]|refine WP_drw ?_|refine cnd_intro (fun hsp=>?_) fun hsp=>?_)
  have hn:l.length ≠ 0:=fun q=>hl (List.eq_nil_of_length_eq_zero q)
  exact ⟨.app .refl,.inr ⟨h.length,0,rfl,get_eq rfl,Nat.le_refl _,by omega⟩⟩
end F4
end Go.AM
namespace Go.AM
namespace F4
open Go.Proofs.Tryz
attribute [-go_sem] put_ne put_same
attribute [local go_sem ↓] put_if
def slB (id n:Nat):ABlk:=⟨.cells [.slice (some ⟨id,0,0⟩) n n] 297 false false,0⟩
def wyB (vs:List WyV):ABlk:=rowE encW 217 vs 0
def WI (h1:Heap) (v:AVal) (p:Nat) (fr:Bool) (a nid N n:Nat) (vs:List WyV) (now nx:List Way) (H:Heap):Prop :=
 (h1.length≤N∧a<N∧nid<N)∧Ext h1 H∧BoxAt H (N+2) (N+4) (N+3) v p fr∧H[a]?=some (slB nid n)∧H[nid]?=some (wyB vs)∧H[N+1]?=some (slB N n)∧RelW h1.length H [N,N+5] vs now∧∃ vs2,H[N]?=some (wyB vs2)∧RelW h1.length H [N,N+5] vs2 nx
section
variable {h1 H H':Heap} {v:AVal} {p a nid N n:Nat} {fr:Bool} {vs:List WyV} {now nx:List Way}
theorem WI.ext (x:WI h1 v p fr a nid N n vs now nx H) (e:Ext H H'):WI h1 v p fr a nid N n vs now nx H':=by
 obtain ⟨b,x1,x2,x3,x4,x5,x6,vs2,x7,x8⟩:=x
 exact ⟨b,x1.trans e,x2.ext e,e.get x3,e.get x4,e.get x5,x6.ext e,vs2,e.get x7,x8.ext e⟩
theorem WI.set5 {k:ABlk} (x:WI h1 v p fr a nid N n vs now nx H):WI h1 v p fr a nid N n vs now nx (H.set (N+5) k):=by
 obtain ⟨b,x1,⟨x2,x2',x2''⟩,x3,x4,x5,x6,vs2,x7,x8⟩:=x
 exact ⟨b,x1.set (by omega),⟨by rw [get_set_ne (by omega)];exact x2,by rw [get_set_ne (by omega)];exact x2',by rw [get_set_ne (by omega)];exact x2''⟩,by rw [get_set_ne (by omega)];exact x3,by rw [get_set_ne (by omega)];exact x4,by rw [get_set_ne (by omega)];exact x5,x6.set (by simp),vs2,by rw [get_set_ne (by omega)];exact x7,x8.set (by simp)⟩
theorem WI.put {vs2:List WyV} {nx':List Way} (x:WI h1 v p fr a nid N n vs now nx H) (y:RelW h1.length H [N,N+5] vs2 nx'):WI h1 v p fr a nid N n vs now nx' (H.set N (wyB vs2)):=by
 obtain ⟨b,x1,⟨x2,x2',x2''⟩,x3,x4,x5,x6,vs0,x7,x8⟩:=x
 exact ⟨b,x1.set (by omega),⟨by rw [get_set_ne (by omega)];exact x2,by rw [get_set_ne (by omega)];exact x2',by rw [get_set_ne (by omega)];exact x2''⟩,by rw [get_set_ne (by omega)];exact x3,by rw [get_set_ne (by omega)];exact x4,by rw [get_set_ne (by omega)];exact x5,x6.set (by simp),vs2,by rw [List.getElem?_set_self (lt_of_get x7)],y.set (by simp)⟩
end
theorem encW_cells {w:WyV} (h:One w.v):encW.cells w=[.int .i64 w.many,w.v]:=by simp only [encW,norm_one h]
theorem flatW_get {vs:List WyV} {i:Nat} {w:WyV} (hg:vs[i]?=some w) (h:One w.v):(flat encW vs)[i * 2]?=some (.int .i64 w.many)∧(flat encW vs)[i * 2+1]?=some w.v:=by
 have e:=flat_get encW hg
 rw [encW_cells h,show encW.z=2 from rfl] at e
 have h0:((flat encW vs).drop (i * 2)).take 2=[.int .i64 w.many,w.v]:=e
 have g:∀ j,j<2→(flat encW vs)[i * 2+j]?=([AVal.int .i64 w.many,w.v]:List AVal)[j]?:=fun j hj=>by
  rw [← h0,List.getElem?_take,if_pos hj,List.getElem?_drop]
 exact ⟨g 0 (by decide),g 1 (by decide)⟩
theorem flatW_set {vs:List WyV} {i:Nat} {w u:WyV} (hg:vs[i]?=some w) (h:One w.v) (hu:One u.v) :
  (u.v=w.v→(flat encW vs).set (i * 2) (.int .i64 u.many)=flat encW (vs.set i u))∧(u.many=w.many→(flat encW vs).set (i * 2+1) u.v=flat encW (vs.set i u)):=by
 have hi:=(List.getElem?_eq_some_iff.1 hg).1
 have e:=flat_set encW (x:=u) hi
 have e2:=flat_set encW (x:=w) hi
 have hw:vs.set i w=vs:=by have:=(List.getElem?_eq_some_iff.1 hg).2;rw [← this,List.set_getElem_self]
 have hl:=flat_len encW vs
 rw [show encW.z=2 from rfl] at e e2 hl
 rw [hw] at e2
 have hle:(i+1) * 2≤vs.length * 2:=Nat.mul_le_mul_right _ hi
 have ht:((flat encW vs).take (i * 2)).length=i * 2:=by rw [List.length_take];omega
 rw [encW_cells hu] at e
 rw [encW_cells h] at e2
 rw [e]
 refine ⟨fun q=>?_,fun q=>?_⟩
 ·conv=>lhs;rw [e2]
  rw [List.append_assoc,List.set_append_right _ _ (by omega),ht,Nat.sub_self,q]
  simp
 ·conv=>lhs;rw [e2]
  rw [List.append_assoc,List.set_append_right _ _ (by omega),ht,show i * 2+1-i * 2=1 by omega,q]
  simp
theorem ldW {vs:List WyV} {i:Nat} {w:WyV} (hg:vs[i]?=some w) (h:One w.v):ldB (some (false,1)) (some (wyB vs)) 0 (i * 2)=some (.int .i64 w.many)∧ldB (some (false,1)) (some (wyB vs)) 0 (i * 2+1)=some w.v:=by
 unfold wyB rowE
 rw [ldB_cell,ldB_cell]
 exact flatW_get hg h
theorem stW {vs:List WyV} {i base N:Nat} {w u:WyV} {K:ABlk→Heap} (hb:base≤N) (hg:vs[i]?=some w) (h:One w.v) (hu:One u.v) :
  (u.v=w.v→stQ base N (some (wyB vs)) 0 (i * 2) [.int .i64 u.many] K=some (K (wyB (vs.set i u))))∧(u.many=w.many→stQ base N (some (wyB vs)) 0 (i * 2+1) [u.v] K=some (K (wyB (vs.set i u)))):=by
 have hi:=(List.getElem?_eq_some_iff.1 hg).1
 have hl:=flat_len encW vs
 rw [show encW.z=2 from rfl] at hl
 have hle:(i+1) * 2≤vs.length * 2:=Nat.mul_le_mul_right _ hi
 obtain ⟨q1,q2⟩:=flatW_set hg h hu
 unfold wyB rowE
 refine ⟨fun q=>?_,fun q=>?_⟩
 ·rw [stQ_own hb (by simp only [List.length_cons,List.length_nil];omega) (by simp [AVal.scalar])]
  simp only [splice,q1 q]
 ·rw [stQ_own hb (by simp only [List.length_cons,List.length_nil];omega) (by simp [hu.2.2])]
  simp only [splice,q2 q]
theorem RelW.get {lo:Nat} {H:Heap} {X:List Nat} {vs:List WyV} {l:List Way} (x:RelW lo H X vs l) {i:Nat} (hi:i<l.length):∃ w,vs[i]?=some w∧w.many=((l.getD i wy0).1:Int)∧Own encB 67 lo H w.v (l.getD i wy0).2∧Off X w.v∧One w.v:=by
 have h1:i<vs.length:=by rw [x.1];exact hi
 refine ⟨vs[i],List.getElem?_eq_getElem h1,?_⟩
 obtain ⟨q1,q2,q3⟩:=x.2 i _ _ (List.getElem?_eq_getElem h1) (getD_some (d:=wy0) hi)
 exact ⟨q1,q2,q3,q2.one⟩
theorem ldWA {vs:List WyV} {i:Nat} {w:WyV} (hg:vs[i]?=some w) (h:One w.v):ldB (some (true,2)) (some (wyB vs)) 0 (i * 2)=some (.agg [.int .i64 w.many,w.v]):=by
 have hi:=(List.getElem?_eq_some_iff.1 hg).1
 have e:=flat_get encW hg
 rw [encW_cells h,show encW.z=2 from rfl] at e
 have hl:=flat_len encW vs
 rw [show encW.z=2 from rfl] at hl
 have hle:(i+1) * 2≤vs.length * 2:=Nat.mul_le_mul_right _ hi
 unfold wyB rowE
 rw [ldB_agg (by omega),e]
theorem RelW.setBox {lo:Nat} {H:Heap} {X:List Nat} {vs:List WyV} {l:List Way} {a m n:Nat} {k:ABlk} (x:RelW lo H X vs l) (hg:H[a]?=some (slB m n)):RelW lo (H.set a k) X vs l:=⟨x.1,fun j y w h1 h2=>by
 obtain ⟨q1,q2,q3⟩:=x.2 j y w h1 h2
 refine ⟨q1,?_,q3⟩
 rcases q2 with q|⟨id,ver,e1,e2,e3⟩
 ·exact .inl q
 ·have hne:a ≠ id:=by
   rintro rfl
   rw [hg] at e2
   simp [slB,rowE] at e2
  exact .inr ⟨id,ver,e1,by rw [List.getElem?_set_ne hne];exact e2,e3⟩⟩
theorem bsB {lit:Bool} {h:Heap} {a b c:Int}:bsA prog lit h 116 1 [(0,.agg [.int .i64 a,.int .i64 b,.int .i64 c])]=some (.slice (some ⟨h.length,0,0⟩) 1 1,h++[rowE encB 67 [(a,b,c)] 0]):=by
 simp [bsA,rowOf,Fc.el116,fillA,repCells,AVal.isN,AVal.cells,splice,rowE,flat,encB]
def WaysAt (lo:Nat) (H:Heap) (w:AVal) (l:List Way):Prop:=∃ nid vs,w=.slice (some ⟨nid,0,0⟩) l.length l.length∧H[nid]?=some (wyB vs)∧RelW lo H [] vs l
end F4
end Go.AM
