/-
  Contracts: the cards that are sure.
-/
import Derived.Test.YteanoaejoddnbaaU14
import Derived.Test.YteanoaejoddnbaaU15
import Derived.Test.YteanoaejoddnbaaU12
import Derived.Test.YteanoaejoddnbaaU13
set_option linter.unusedSimpArgs false
set_option linter.unusedVariables false
namespace Go.AM
open Go.Proofs.Try
attribute [-go_sem] put_ne put_same
attribute [local go_sem ↓] put_if
def knwM (o:List Int) (ok:Nat→Bool):Nat→List Int
 | 0=>o
 | i+1=>if ok i=true then knwM o ok i else (knwM o ok i).set i (-1)
theorem knwM_len {o:List Int} {ok:Nat→Bool}:∀ i,(knwM o ok i).length=o.length
 | 0=>rfl
 | i+1=>by rw [knwM];split<;>simp [knwM_len i]
theorem knwM_at {o:List Int} {ok:Nat→Bool} {p:Nat}:∀ {i},i≤o.length→(knwM o ok i).getD p 0=if p<i∧ok p=false then -1 else o.getD p 0
 | 0,_=>by rw [knwM,if_neg (by omega)]
 | i+1,hi=>by
  have ih:=knwM_at (o:=o) (ok:=ok) (p:=p) (i:=i) (by omega)
  rw [knwM]
  cases c:ok i with
  | true =>
   rw [if_pos rfl,ih]
   by_cases e:p=i
   ·rw [if_neg (by omega),if_neg (by rw [e,c];simp)]
   ·by_cases q:p<i∧ok p=false
    ·rw [if_pos q,if_pos ⟨by omega,q.2⟩]
    ·rw [if_neg q,if_neg (fun z=>q ⟨by omega,z.2⟩)]
  | false =>
   rw [if_neg (by simp),getD_setI (by rw [knwM_len];omega),ih]
   by_cases e:i=p
   ·rw [if_pos e,if_pos ⟨by omega,by rw [← e];exact c⟩]
   ·rw [if_neg e]
    by_cases q:p<i∧ok p=false
    ·rw [if_pos q,if_pos ⟨by omega,q.2⟩]
    ·rw [if_neg q,if_neg (fun z=>q ⟨by omega,z.2⟩)]
def allK (os:List (List Int)) (k:Int) (p:Nat):Bool:=os.all fun x=>decide (x.getD p 0=k)
theorem getD_ext {l m:List Int} (h:l.length=m.length) (q:∀ i,i<l.length→l.getD i 0=m.getD i 0):l=m:=by
 refine List.ext_getElem h fun i h1 h2=>?_
 have:=q i h1
 rwa [getD_at h1,getD_at h2] at this
theorem lst_getD {f:Nat→Int} {n i:Nat} (h:i<n):(lst f n).getD i 0=f i:=by
 exact lst_get h
theorem knwM_all {n:Nat} {os:List (List Int)} (h:(os.headD []).length=n):knwM (os.headD []) (fun p=>allK os ((os.headD []).getD p 0) p) n=knwL n os:=by
 refine getD_ext (by rw [knwM_len,h,knwL,lst_len]) fun i hi=>?_
 rw [knwM_len,h] at hi
 rw [knwM_at (by omega),knwL,lst_getD hi]
 show _=if allK os ((os.headD []).getD i 0) i=true then _ else _
 cases c:allK os ((os.headD []).getD i 0) i with
 | true=>rw [if_neg (by simp),if_pos rfl]
 | false=>rw [if_pos ⟨hi,rfl⟩,if_neg (by simp)]
theorem run_kn1 {base a b:Nat} {h:Heap} {y:AVal} {t:List Int} {p:Nat} {k:Int} (ga:h[a]?=some (nB (p:Int))) (gb:h[b]?=some (nB k)) (hO:Ints h y t) (hp:p<t.length) :
  callL prog raw base (.fn 107 [] [.ptr (some ⟨a,0,0⟩),.ptr (some ⟨b,0,0⟩)]) [y] h=some (.bool (decide (t.getD p 0=k)),h):=by
 have la:=lt_of_get ga
 have lb:=lt_of_get gb
 have oy:=hO.one
 have hb:=hO.1.1
 have ad:=adrI (i:=(p:Int)) (by omega) hO (by omega)
 rw [Int.toNat_natCast] at ad
 have ld:=loadI hO hp
 unfold nB at ga gb
 refine callL_run func107 rfl rfl ?_
 have hsp:=@Nat.succ_ne_zero;repeat' (first|simp (disch:=first|exact dqb|fail) only [go_sem,↓reduceIte,hsp,ga,gb,ad,ld]|refine WP_drw ?_|refine cnd_intro (fun hsp=>?_) fun hsp=>?_)
 exact fB rfl
set_option maxRecDepth 100000 in
set_option maxHeartbeats 4000000 in
theorem run_Known {base:Nat} {h:Heap} {v:AVal} {L:Lac} (hb:base≤h.length) (hL:LacAt h v L) :
  Ret prog raw base (.fn 41 [] []) [v] h (fun w H=>Ext h H∧∃ x,w=.tuple [x,.int .i64 (kwnE L).2]∧OwnE encI 3 h.length H x (kwnE L).1):=by
 have hL0:=hL
 obtain ⟨cv,rv,rfl,hC,hR⟩:=hL
 have o1:=hC.one
 have o2:=hR.one
 obtain ⟨G0,eG0⟩:∃ G0,G0=h++[lacB L.T cv rv]:=⟨_,rfl⟩
 have x0:Ext h G0:=by rw [eG0];exact .app .refl
 have g0:G0[h.length]?=some (lacB L.T cv rv):=by rw [eG0];exact get_eq rfl
 have l0:G0.length=h.length+1:=by rw [eG0];simp
 obtain ⟨w1,H1,e1,x1,a,x,rfl,oa,hA,hD⟩:=run_found (base:=base) (h:=G0) (by omega) (hL0.ext x0)
 have ox:=hA.one
 have l1:=x1.len
 unfold lacB at eG0 g0
 by_cases c:(fndE L).2=0
 ·obtain ⟨c1,c2,c3⟩:=fndE_ok c
  obtain ⟨n,en⟩:∃ n,L.C.length=n:=⟨_,rfl⟩
  have hn7:1≤n∧n≤7:=by rw [← en];exact (chkL_iff.1 c1).n
  have hord:∀ o ∈ fnd L,Ord n o:=fun o ho=>by rw [← en];exact fnd_ord ho
  have r:kwnE L=(knwL n (fnd L),0):=by unfold kwnE;rw [if_pos c,en]
  rw [r]
  rw [c3] at hA e1
  have hAI:AllI G0.length H1 x (fnd L):=hA.all
  obtain ⟨vs,q1,q2',q3⟩:=hA
  have q2:vs.length=(fnd L).length:=q2'
  have hpos:0<(fnd L).length:=by cases q:fnd L with|nil=>exact absurd q c2|cons a b=>simp
  have hv0:vs[0]?=some vs[0]:=List.getElem?_eq_getElem (by omega)
  have ho:=q3 0 _ _ hv0 (head_at c2)
  obtain ⟨y,ey⟩:∃ y,y=vs[0]'(by rw [q2];exact hpos):=⟨_,rfl⟩
  rw [← ey] at hv0 ho
  have hfew:=fnd_few (L:=L) (by omega)
  have hRw:=q1.rows (show vs.length<2 ^ 60 by omega)
  have ad:=hRw.addr (P:=prog) (i:=((0:Nat):Int)) Fc.el54 Fc.ar54 (by omega) (by omega)
  have ld:loadP prog H1 25 (elAdr x 1 0 0)=some y:=hRw.cell (P:=prog) Fc.ty25 hv0 (o:=0) (a:=y) (by simp only [encZ,norm_one ho.one];rfl)
  rw [Int.toNat_natCast,Int.natCast_zero] at ad
  have oy:=ho.one
  have hz:encZ.z=1:=rfl
  rw [hz] at ad
  obtain ⟨o,eo⟩:∃ o,o=(fnd L).headD []:=⟨_,rfl⟩
  rw [← eo] at ho
  have hom:o ∈ fnd L:=by rw [eo];exact List.mem_of_getElem? (head_at c2)
  have hoo:=hord o hom
  have hol:=hoo.1
  have hIo:=ownE_ints ho (ord_small hoo (by omega))
  obtain ⟨v2,H2,e2,x2,o2⟩:=run_cloneE (base:=base) hIo (ord_small hoo (by omega))
  obtain ⟨id,ver,rfl,gid,hid⟩:=o2.pos (by omega)
  rw [rowE_iB] at gid
  have lid:=lt_of_get gid
  have l2:=x2.len
  obtain ⟨ok,eok⟩:∃ ok:Nat→Bool,ok=fun p=>allK (fnd L) (o.getD p 0) p:=⟨_,rfl⟩
  obtain ⟨D,eD⟩:∃ D:Nat→Heap,D=fun i=>H2.set id (iB (knwM o ok i) ver):=⟨_,rfl⟩
  have lD:∀ i,(D i).length=H2.length:=fun i=>by rw [eD];exact List.length_set
  have gD:∀ i,(D i)[id]?=some (iB (knwM o ok i) ver):=fun i=>by rw [eD];exact List.getElem?_set_self lid
  have xD:∀ i,Ext H1 (D i):=fun i=>by rw [eD];exact x2.set (by omega)
  have hD0:D 0=H2:=by rw [eD];exact set_id gid
  have hDs:∀ i j,(D i).set id (iB (knwM o ok j) ver)=D j:=fun i j=>by rw [eD];exact List.set_set ..
  have ln2:∀ {H:Heap},lenOpA prog H 25 (.slice (some ⟨id,ver,0⟩) o.length o.length)=some (.int .i64 (o.length:Int)):=fun {H}=>by simp [lenOpA,Fc.el25,lenA]
  refine ret_raw func41 rfl (by kernel_rfl) ?_
  have hsp:=@Nat.succ_ne_zero;repeat' (first|simp (disch:=first|exact dqb|fail) only [go_sem,↓reduceIte,hsp,← eG0,g0,e1,eq_self,ad,ld,e2,ln2]|refine WP_drw ?_|refine cnd_intro (fun hsp=>?_) fun hsp=>?_)
  refine WP_count [(8,9),(25,37)] 0 o.length (Nat.zero_le _) (fun _ i fr K=>fr 25=.int .i64 (i:Int)∧Ext (D i) K) ?_ ?_ ?_
  ·exact ⟨by (simp (disch:=first|exact dqb|fail) only [go_sem,↓reduceIte,Int.natCast_zero];first|done|rfl),by rw [hD0];exact .refl⟩
  ·rintro i fr K hi0 hi hA2 ⟨r25,xK⟩
   have p2:=hA2 2 rfl
   have p3:=hA2 3 rfl
   have p5:=hA2 5 rfl
   have p7:=hA2 7 rfl
   have p23:=hA2 23 rfl
   have p24:=hA2 24 rfl
   try simp (disch:=first|exact dqb|fail) only [go_sem,↓reduceIte] at p2 p3 p5 p7 p23 p24
   have hlt:((i:Int)<(o.length:Int))=True:=eq_true (by omega)
   have lK:=xK.len
   have lDi:=lD i
   have gK:=xK.get (gD i)
   have hkl:=knwM_len (o:=o) (ok:=ok) i
   have adr:indexAddrA prog 25 (.slice (some ⟨id,ver,0⟩) o.length o.length) (.int .i64 (i:Int))=some (.ptr (some ⟨id,ver,i⟩)):=by
    rw [adr_sl Fc.el25 Fc.ar25 (by omega) (by omega),Int.toNat_natCast,Nat.mul_one,Nat.zero_add]
   obtain ⟨k,ek⟩:∃ k,k=o.getD i 0:=⟨_,rfl⟩
   have d1:loadP prog K 3 (.ptr (some ⟨id,ver,i⟩))=some (.int .i64 k):=by
    rw [load_eq,Fc.ty3,gK,ldB_ints (by omega),knwM_at (by omega),if_neg (by omega),ek]
   obtain ⟨K1,eK1⟩:∃ K1,K1=K++[nB (i:Int)]:=⟨_,rfl⟩
   obtain ⟨K2,eK2⟩:∃ K2,K2=K1++[nB k]:=⟨_,rfl⟩
   have y1:Ext K K1:=by rw [eK1];exact .app .refl
   have y2:Ext K1 K2:=by rw [eK2];exact .app .refl
   have lK1:K1.length=K.length+1:=by rw [eK1];simp
   have lK2:K2.length=K.length+2:=by rw [eK2];simp [lK1]
   have ga:K2[K.length]?=some (nB (i:Int)):=by rw [eK2];exact get_app (by rw [eK1];exact get_eq rfl)
   have gb:K2[K.length+1]?=some (nB k):=by rw [eK2];exact get_eq lK1.symm
   have xDK:=(xK.trans y1).trans y2
   have hev:=every_Z (base:=base) (b:=G0.length) (h:=K2) (v:=x) (g:=.fn 107 [] [.ptr (some ⟨K.length,0,0⟩),.ptr (some ⟨K.length+1,0,0⟩)]) (ts:=fnd L) (fun t=>decide (t.getD i 0=k)) (by omega) ⟨rfl,rfl,rfl⟩ (hAI.ext ((xD i).trans xDK)) (by omega)
    (fun z t ht hz=>run_kn1 (get_app ga) (get_app gb) ((ownE_ints hz (ord_small (hord t ht) (by omega))).ext (.app .refl)) (by have:=(hord t ht).1;omega))
   rw [show (fnd L).all (fun t=>decide (t.getD i 0=k))=ok i by rw [eok,ek];rfl] at hev
   obtain ⟨K3,eK3⟩:∃ K3,K3=K2++[evZ (.fn 107 [] [.ptr (some ⟨K.length,0,0⟩),.ptr (some ⟨K.length+1,0,0⟩)])]:=⟨_,rfl⟩
   rw [← eK3] at hev
   have y3:Ext K2 K3:=by rw [eK3];exact .app .refl
   have ga3:=y3.get ga
   have xD3:=xDK.trans y3
   have gK3:=xD3.get (gD i)
   have l3:=xD3.len
   unfold nB at eK1 eK2 ga3
   cases c5:ok i with
   | true =>
    rw [c5] at hev
    have hDi:D (i+1)=D i:=by rw [eD];simp only [knwM,if_pos c5]
    have hsp:=@Nat.succ_ne_zero;repeat' (first|simp (disch:=first|exact dqb|fail) only [go_sem,↓reduceIte,hsp,r25,p2,p3,p5,p7,p23,p24,hlt,adr,d1,← eK1,← eK2,hev]|refine WP_drw ?_|refine cnd_intro (fun hsp=>?_) fun hsp=>?_)
    exact ⟨agq,by omega,by rw [hDi];exact xD3⟩
   | false =>
    rw [c5] at hev
    have hst:∀ {F:ABlk→Heap},stQ base id (some (iB (knwM o ok i) ver)) ver i [.int .i64 (-1)] F=some (F (iB ((knwM o ok i).set i (-1)) ver)):=fun {F}=>stQ_ints (by omega)
    have hkm:(knwM o ok i).set i (-1)=knwM o ok (i+1):=by rw [knwM,if_neg (by rw [c5];simp)]
    rw [hkm] at hst
    have hfin:Ext (D (i+1)) (K3.set id (iB (knwM o ok (i+1)) ver)):=by
     have:=xD3.set2 (i:=id) (k:=iB (knwM o ok (i+1)) ver) (by omega)
     rwa [hDs] at this
    have hsp:=@Nat.succ_ne_zero;repeat' (first|simp (disch:=first|exact dqb|fail) only [go_sem,↓reduceIte,hsp,r25,p2,p3,p5,p7,p23,p24,hlt,adr,d1,← eK1,← eK2,hev,ga3,gK3,hst]|refine WP_drw ?_|refine cnd_intro (fun hsp=>?_) fun hsp=>?_)
    exact ⟨agq,by omega,hfin⟩
  ·rintro fr K hA2 ⟨r25,xK⟩
   have p2:=hA2 2 rfl
   have p3:=hA2 3 rfl
   have p5:=hA2 5 rfl
   have p7:=hA2 7 rfl
   have p23:=hA2 23 rfl
   have p24:=hA2 24 rfl
   try simp (disch:=first|exact dqb|fail) only [go_sem,↓reduceIte] at p2 p3 p5 p7 p23 p24
   have hlt:((o.length:Int)<(o.length:Int))=False:=eq_false (by omega)
   have gK:=xK.get (gD o.length)
   have hfe:knwM o ok o.length=knwL n (fnd L):=by
    rw [eok,eo,← knwM_all (n:=n) (by rw [← eo];exact hol)]
    rw [← eo,hol]
   have hsp:=@Nat.succ_ne_zero;repeat' (first|simp (disch:=first|exact dqb|fail) only [go_sem,↓reduceIte,hsp,r25,p2,p3,p5,p7,p23,p24,hlt]|refine WP_drw ?_|refine cnd_intro (fun hsp=>?_) fun hsp=>?_)
   refine ⟨((x0.trans x1).trans (xD _)).trans xK,_,rfl,.inl (.inr ⟨id,ver,?_,?_,by omega,?_⟩)⟩
   ·rw [← hfe,knwM_len]
   ·rw [gK,rowE_iB,hfe]
   ·rw [← hfe,knwM_len];omega
 ·have t0:((fndE L).2=0)=False:=eq_false c
  have r:kwnE L=([],(fndE L).2):=by unfold kwnE;rw [if_neg c]
  rw [r]
  refine ret_raw func41 rfl (by kernel_rfl) ?_
  have hsp:=@Nat.succ_ne_zero;repeat' (first|simp (disch:=first|exact dqb|fail) only [go_sem,↓reduceIte,hsp,← eG0,g0,e1,t0]|refine WP_drw ?_|refine cnd_intro (fun hsp=>?_) fun hsp=>?_)
  exact ⟨x0.trans x1,_,rfl,.inl Own.nil⟩
end Go.AM
namespace Go.AM
open Go.Proofs.Try
attribute [-go_sem] put_ne put_same
attribute [local go_sem ↓] put_if
def kyN (l o:List Int) (i:Nat):List Int:=((l.take i).map fun p=>o.getD p.toNat 0)++List.replicate (7-i) 0
def kyA (l o:List Int):List Int:=keyL l o++List.replicate (7-l.length) 0
abbrev mbB (m:Nat):ABlk:=⟨.cells [.map (some m)] 156 false false,0⟩
abbrev kyB (k:List Int):ABlk:=⟨.cells (ints k) 157 false false,0⟩
end Go.AM
namespace Go.AM
open Go.Proofs.Try
attribute [-go_sem] put_ne put_same
attribute [local go_sem ↓] put_if
def prC (b:ABlk):Prop:=∀ es,b ≠ ⟨.map es,0⟩
def dcdE (L:Lac):List Int × Int:=if (fndE L).2=0 then (dcdL L.C.length (fnd L),0) else ([],(fndE L).2)
end Go.AM
namespace Go.AM
open Go.Proofs.Try
attribute [-go_sem] put_ne put_same
attribute [local go_sem ↓] put_if
theorem run_pos2 {base:Nat} {h:Heap} {T x:Int} {cv rv:AVal} {l:List Int} (hC:Ints h cv l) (o2:One rv):callL prog raw base (.fn 113 [] []) [.agg [.int .i64 T,cv,rv],.int .i64 x] h=some (.bool (decide (0≤x∧x≤(l.length:Int)-1)),h):=by
 have o1:=hC.one
 have hb:=hC.1.1
 obtain ⟨G,eG⟩:∃ G,G=h++[lacB T cv rv]:=⟨_,rfl⟩
 have xG:Ext h G:=by rw [eG];exact .app .refl
 have g0:G[h.length]?=some (lacB T cv rv):=by rw [eG];exact get_eq rfl
 have hl:=lenI (hC.ext xG)
 unfold lacB at eG g0
 refine callL_run func113 rfl rfl ?_
 have hsp:=@Nat.succ_ne_zero;repeat' (first|simp (disch:=first|exact dqb|fail) only [go_sem,↓reduceIte,hsp,← eG,g0,hl]|refine WP_drw ?_|refine cnd_intro (fun hsp=>?_) fun hsp=>?_)
 exact fB rfl xG
def fitE (L:Lac) (p:Int):List Int × Int:=if chkL L ≠ 0 then ([],chkL L) else if ¬ (0≤p∧p≤(L.C.length:Int)-1) then ([],1) else (fitL L p.toNat,0)
set_option maxHeartbeats 1000000 in
theorem run_Fit {base:Nat} {h:Heap} {v:AVal} {L:Lac} {p:Int} (hb:base≤h.length) (hL:LacAt h v L) :
  Ret prog raw base (.fn 49 [] []) [v,.int .i64 p] h (fun w H=>Ext h H∧∃ x,w=.tuple [x,.int .i64 (fitE L p).2]∧Own encI 3 h.length H x (fitE L p).1):=by
 have hL0:=hL
 obtain ⟨cv,rv,rfl,hC,hR⟩:=hL
 have o1:=hC.one
 have o2:=hR.one
 obtain ⟨G0,eG0⟩:∃ G0,G0=h++[lacB L.T cv rv]:=⟨_,rfl⟩
 have x0:Ext h G0:=by rw [eG0];exact .app .refl
 have g0:G0[h.length]?=some (lacB L.T cv rv):=by rw [eG0];exact get_eq rfl
 have l0:G0.length=h.length+1:=by rw [eG0];simp
 obtain ⟨w1,H1,e1,x1,r1,r2⟩:=run_opened (base:=base) (h:=G0) (by omega) (hL0.ext x0)
 have l1:=x1.len
 have g1:=x1.get g0
 have hps2:=run_pos2 (base:=base) (T:=L.T) (x:=p) (rv:=rv) (hC.ext (x0.trans x1)) o2
 unfold lacB at eG0 g0 g1
 refine ret_raw func49 rfl (by kernel_rfl) ?_
 by_cases c0:chkL L=0
 ·obtain ⟨id,rfl,hid,hD⟩:=r2 c0
  have kn:=(chkL_iff.1 c0).n
  by_cases c1:0≤p∧p≤(L.C.length:Int)-1
  ·rw [decide_eq_true c1] at hps2
   obtain ⟨q,rfl⟩:=Int.eq_ofNat_of_zero_le c1.1
   obtain ⟨w2,H2,e2,x2,oF⟩:=run_fit (base:=base) (p:=q) (by omega) hD kn.2 (by omega)
   have ow:=oF.one
   have hl2:=x2.len
   have r:fitE L (q:Int)=(fitL L q,0):=by unfold fitE;rw [if_neg (by simp [c0]),if_neg (fun z=>z c1),Int.toNat_natCast]
   rw [r]
   have hsp:=@Nat.succ_ne_zero;repeat' (first|simp (disch:=first|exact dqb|fail) only [go_sem,↓reduceIte,hsp,← eG0,g0,e1,eq_self,g1,hps2,e2]|refine WP_drw ?_|refine cnd_intro (fun hsp=>?_) fun hsp=>?_)
   exact ⟨(x0.trans x1).trans x2,_,rfl,oF.low (by omega)⟩
  ·rw [decide_eq_false c1] at hps2
   have r:fitE L p=([],1):=by unfold fitE;rw [if_neg (by simp [c0]),if_pos c1]
   rw [r]
   have hsp:=@Nat.succ_ne_zero;repeat' (first|simp (disch:=first|exact dqb|fail) only [go_sem,↓reduceIte,hsp,← eG0,g0,e1,eq_self,g1,hps2]|refine WP_drw ?_|refine cnd_intro (fun hsp=>?_) fun hsp=>?_)
   exact ⟨x0.trans x1,_,rfl,Own.nil⟩
 ·have t0:(chkL L=0)=False:=eq_false c0
  have q:=r1 c0
  subst q
  have r:fitE L p=([],chkL L):=by unfold fitE;rw [if_pos c0]
  rw [r]
  have hsp:=@Nat.succ_ne_zero;repeat' (first|simp (disch:=first|exact dqb|fail) only [go_sem,↓reduceIte,hsp,← eG0,g0,e1,t0,g1]|refine WP_drw ?_|refine cnd_intro (fun hsp=>?_) fun hsp=>?_)
  exact ⟨x0.trans x1,_,rfl,Own.nil⟩
def xplD (L:Lac) (o:List Int) (i:Nat):Bool:=(List.range i).all fun i=>fitB L i (o.getD i 0).toNat
theorem xplD_succ {L:Lac} {o:List Int} {i:Nat}:xplD L o (i+1)=(xplD L o i && fitB L i (o.getD i 0).toNat):=by
 unfold xplD;rw [List.range_succ,List.all_append];simp
theorem xplD_no {L:Lac} {o:List Int} {i n:Nat} (hi:i<n) (h:fitB L i (o.getD i 0).toNat=false):xplD L o n=false:=by
 unfold xplD
 rw [Bool.eq_false_iff]
 intro q
 have:=List.all_eq_true.1 q i (List.mem_range.2 hi)
 rw [h] at this;cases this
theorem xplD_iff {L:Lac} {o:List Int}:xplD L o o.length=true ↔ Xpl L o:=by
 unfold xplD Xpl
 rw [List.all_eq_true]
 exact ⟨fun h i hi=>h i (List.mem_range.2 hi),fun h i hi=>h i (List.mem_range.1 hi)⟩
theorem run_explainsD {base id:Nat} {h:Heap} {v:AVal} {L:Lac} {o:List Int} (hD:DskAt h id L) (hn:L.C.length≤7) (hI:Ints h v o) (ho:Ord L.C.length o) :
  callL prog raw base (.fn 104 [] []) [.ptr (some ⟨id,0,0⟩),v] h=some (.bool (xplD L o o.length),h):=by
 obtain ⟨cv,rv,hg,hC,-⟩:=hD
 have lid:=lt_of_get hg
 have hlo:=lenI hI
 have ov:=hI.one
 have hol:=ho.1
 refine callL_run func104 rfl rfl ?_
 have hsp:=@Nat.succ_ne_zero;repeat' (first|simp (disch:=first|exact dqb|fail) only [go_sem,↓reduceIte,hsp,hlo]|refine WP_drw ?_|refine cnd_intro (fun hsp=>?_) fun hsp=>?_)
 refine WP_count [(4,6),(9,23)] 0 o.length (Nat.zero_le _) (fun _ i fr H=>fr 9=.int .i64 (i:Int)∧H=h∧xplD L o i=true) ?_ ?_ ?_
 ·exact ⟨by (simp (disch:=first|exact dqb|fail) only [go_sem,↓reduceIte,Int.natCast_zero];first|done|rfl),rfl,rfl⟩
 ·rintro i fr H hi0 hi hA ⟨r9,rfl,hx⟩
  have q0:=hA 0 rfl
  have q7:=hA 7 rfl
  have q8:=hA 8 rfl
  try simp (disch:=first|exact dqb|fail) only [go_sem,↓reduceIte] at q0 q7 q8
  have hlt:((i:Int)<(o.length:Int))=True:=eq_true (by omega)
  have ai:=adrI (i:=(i:Int)) (by omega) hI (by omega)
  rw [Int.toNat_natCast] at ai
  have li:=loadI hI hi
  have hr:=ho.2.1 _ (getD_mem hi)
  obtain ⟨c,ec⟩:=Int.eq_ofNat_of_zero_le hr.1
  rw [ec] at li
  have ad1:=Fc.ad150 (id:=id) (ver:=0) (o:=3) (i:=(i:Int)) (by omega) (by omega)
  have ad2:=Fc.ad148 (id:=id) (ver:=0) (o:=3+i * 7) (i:=(c:Int)) (by omega) (by omega)
  rw [Int.toNat_natCast] at ad1 ad2
  rw [Nat.mul_one] at ad2
  have lb:=ld_dsk hg hn (show i<L.C.length by omega) (show c<L.C.length by omega)
  have hfc:fitB L i (o.getD i 0).toNat=fitB L i c:=by rw [ec,Int.toNat_natCast]
  cases hc:fitB L i c with
  | true =>
   rw [hc] at lb
   have hsp:=@Nat.succ_ne_zero;repeat' (first|simp (disch:=first|exact dqb|fail) only [go_sem,↓reduceIte,hsp,r9,q0,q7,q8,hlt,ai,li,ad1,ad2,lb]|refine WP_drw ?_|refine cnd_intro (fun hsp=>?_) fun hsp=>?_)
   exact ⟨agq,by omega,by rw [xplD_succ,hx,hfc,hc];rfl⟩
  | false =>
   rw [hc] at lb
   have hsp:=@Nat.succ_ne_zero;repeat' (first|simp (disch:=first|exact dqb|fail) only [go_sem,↓reduceIte,hsp,r9,q0,q7,q8,hlt,ai,li,ad1,ad2,lb]|refine WP_drw ?_|refine cnd_intro (fun hsp=>?_) fun hsp=>?_)
   exact fB (by rw [xplD_no hi (by rw [hfc];exact hc)])
 ·rintro fr H hA ⟨r9,rfl,hx⟩
  have q0:=hA 0 rfl
  have q7:=hA 7 rfl
  have q8:=hA 8 rfl
  try simp (disch:=first|exact dqb|fail) only [go_sem,↓reduceIte] at q0 q7 q8
  have hlt:((o.length:Int)<(o.length:Int))=False:=eq_false (by omega)
  have hsp:=@Nat.succ_ne_zero;repeat' (first|simp (disch:=first|exact dqb|fail) only [go_sem,↓reduceIte,hsp,r9,q0,q7,q8,hlt]|refine WP_drw ?_|refine cnd_intro (fun hsp=>?_) fun hsp=>?_)
  exact fB (by rw [hx])
def lcdE (L:Lac) (o:List Int):Int:=if chkL L=0 then ordL o L.C.length else chkL L
set_option maxHeartbeats 1000000 in
theorem run_laced {base:Nat} {h:Heap} {v ov:AVal} {L:Lac} {o:List Int} (hb:base≤h.length) (hL:LacAt h v L) (hO:Ints h ov o) :
  Ret prog raw base (.fn 103 [] []) [v,ov] h (fun w H=>Ext h H∧∃ a,w=.tuple [a,.int .i64 (lcdE L o)]∧One a∧(lcdE L o=0→∃ id,a=.ptr (some ⟨id,0,0⟩)∧DskAt H id L)):=by
 have hL0:=hL
 obtain ⟨cv,rv,rfl,hC,hR⟩:=hL
 have o1:=hC.one
 have o2:=hR.one
 have o3:=hO.one
 obtain ⟨G0,eG0⟩:∃ G0,G0=h++[lacB L.T cv rv]:=⟨_,rfl⟩
 have x0:Ext h G0:=by rw [eG0];exact .app .refl
 have g0:G0[h.length]?=some (lacB L.T cv rv):=by rw [eG0];exact get_eq rfl
 have l0:G0.length=h.length+1:=by rw [eG0];simp
 obtain ⟨w1,H1,e1,x1,r1,r2⟩:=run_opened (base:=base) (h:=G0) (by omega) (hL0.ext x0)
 have l1:=x1.len
 have g1:=x1.get g0
 have xh:=x0.trans x1
 have hlc:=lenI (hC.ext xh)
 unfold lacB at eG0 g0 g1
 refine ret_raw func103 rfl (by kernel_rfl) ?_
 by_cases c0:chkL L=0
 ·obtain ⟨id,rfl,hid,hD⟩:=r2 c0
  have kn:=(chkL_iff.1 c0).n
  have ho:=run_ordered (base:=base) (n:=(L.C.length:Int)) (hO.ext xh) (by omega)
  have r:lcdE L o=ordL o L.C.length:=by unfold lcdE;rw [if_pos c0]
  rw [r]
  have hsp:=@Nat.succ_ne_zero;repeat' (first|simp (disch:=first|exact dqb|fail) only [go_sem,↓reduceIte,hsp,← eG0,g0,e1,eq_self,g1,hlc,ho]|refine WP_drw ?_|refine cnd_intro (fun hsp=>?_) fun hsp=>?_)
  exact ⟨xh,_,rfl,⟨rfl,rfl,rfl⟩,fun _=>⟨id,rfl,hD⟩⟩
 ·have t0:(chkL L=0)=False:=eq_false c0
  have q:=r1 c0
  subst q
  have r:lcdE L o=chkL L:=by unfold lcdE;rw [if_neg c0]
  rw [r]
  have hsp:=@Nat.succ_ne_zero;repeat' (first|simp (disch:=first|exact dqb|fail) only [go_sem,↓reduceIte,hsp,← eG0,g0,e1,t0,g1]|refine WP_drw ?_|refine cnd_intro (fun hsp=>?_) fun hsp=>?_)
  exact ⟨xh,_,rfl,⟨rfl,rfl,rfl⟩,fun q=>absurd q (by simp)⟩
def xpsE (L:Lac) (o:List Int):Bool × Int:=if lcdE L o=0 then (xplD L o o.length,0) else (false,lcdE L o)
theorem lcdE_ok {L:Lac} {o:List Int} (h:lcdE L o=0):chkL L=0∧Ord L.C.length o:=by
 unfold lcdE at h
 split at h
 ·rename_i c;exact ⟨c,ordL_iff.1 h⟩
 ·rename_i c;exact absurd h c
theorem run_Explains {base:Nat} {h:Heap} {v ov:AVal} {L:Lac} {o:List Int} (hL:LacAt h v L) (hO:Ints h ov o) :
  callL prog raw base (.fn 38 [] []) [v,ov] h=some (.tuple [.bool (xpsE L o).1,.int .i64 (xpsE L o).2],h):=by
 have hL0:=hL
 obtain ⟨cv,rv,rfl,hC,hR⟩:=hL
 have o1:=hC.one
 have o2:=hR.one
 have o3:=hO.one
 obtain ⟨G0,eG0⟩:∃ G0,G0=h++[lacB L.T cv rv]:=⟨_,rfl⟩
 have x0:Ext h G0:=by rw [eG0];exact .app .refl
 have g0:G0[h.length]?=some (lacB L.T cv rv):=by rw [eG0];exact get_eq rfl
 have l0:G0.length=h.length+1:=by rw [eG0];simp
 obtain ⟨w1,H1,e1,x1,a,rfl,oa,ha⟩:=run_laced (base:=h.length) (h:=G0) (by omega) (hL0.ext x0) (hO.ext x0)
 have l1:=x1.len
 unfold lacB at eG0 g0
 refine callL_run func38 rfl rfl ?_
 by_cases c:lcdE L o=0
 ·obtain ⟨c1,c2⟩:=lcdE_ok c
  obtain ⟨id,rfl,hD⟩:=ha c
  have r:xpsE L o=(xplD L o o.length,0):=by unfold xpsE;rw [if_pos c]
  rw [c] at e1
  have he:=run_explainsD (base:=h.length) hD (chkL_iff.1 c1).n.2 (hO.ext (x0.trans x1)) c2
  have hsp:=@Nat.succ_ne_zero;repeat' (first|simp (disch:=first|exact dqb|fail) only [go_sem,↓reduceIte,hsp,← eG0,g0,e1,eq_self,he]|refine WP_drw ?_|refine cnd_intro (fun hsp=>?_) fun hsp=>?_)
  rw [r]
  exact fBI rfl rfl (x0.trans x1)
 ·have t0:(lcdE L o=0)=False:=eq_false c
  have r:xpsE L o=(false,lcdE L o):=by unfold xpsE;rw [if_neg c]
  have hsp:=@Nat.succ_ne_zero;repeat' (first|simp (disch:=first|exact dqb|fail) only [go_sem,↓reduceIte,hsp,← eG0,g0,e1,t0]|refine WP_drw ?_|refine cnd_intro (fun hsp=>?_) fun hsp=>?_)
  rw [r]
  exact fBI rfl rfl (x0.trans x1)
def prmB (l:List Int) (n:Nat):Bool:=decide (l.length=n) && (upto n).all fun k=>decide (k ∈ l)
end Go.AM
namespace Go.AM
open Go.Proofs.Try
attribute [-go_sem] put_ne put_same
attribute [local go_sem ↓] put_if
def makE (o:List Int) (ms:List (Int × Int)):List Int × Int:=if aloL o=0 then makF o.length ms o else ([],aloL o)
theorem perm_small' {l m:List Int} (h:l.Perm m) (hs:Small m):Small l:=⟨by rw [h.length_eq];exact hs.1,fun x hx=>hs.2 x (h.mem_iff.1 hx)⟩
set_option maxHeartbeats 2000000 in
theorem run_Make {base:Nat} {h:Heap} {v mv:AVal} {o:List Int} {ms:List (Int × Int)} (hb:base≤h.length) (hI:Ints h v o) (hM:Rows encM h mv ms) (hml:ms.length≤100000) :
  Ret prog raw base (.fn 26 [] []) [v,mv] h (fun w H=>Ext h H∧∃ x,w=.tuple [x,.int .i64 (makE o ms).2]∧OwnE encI 3 h.length H x (makE o ms).1):=by
 have ha:=fun base=>run_alone (base:=base) hI
 have hv1:=hI.one
 have hm1:=hM.one
 by_cases c:aloL o=0
 ·obtain ⟨c1,c2,c3⟩:=aloL_iff.1 c
  rw [c] at ha
  have hsm:=small_ints hI (by omega)
  obtain ⟨n,en⟩:∃ n,n=o.length:=⟨_,rfl⟩
  have r:makE o ms=makF n ms o:=by unfold makE;rw [if_pos c,en]
  rw [r]
  obtain ⟨v1,H1,e1,x1,o1⟩:=run_cloneE (base:=base) hI hsm
  have hl1:=x1.len
  have ov1:=o1.one
  have hlm:=(hM.ext x1).len (P:=prog) Fc.el33
  refine ret_raw func26 rfl (by kernel_rfl) ?_
  have hsp:=@Nat.succ_ne_zero;repeat' (first|simp (disch:=first|exact dqb|fail) only [go_sem,↓reduceIte,hsp,ha,eq_self,e1,hlm]|refine WP_drw ?_|refine cnd_intro (fun hsp=>?_) fun hsp=>?_)
  refine WP_count [(4,9),(19,42)] 0 ms.length (Nat.zero_le _) (fun _ i fr K=>fr 19=.int .i64 (i:Int)∧Ext h K∧∃ o' w,fr 7=w∧OwnE encI 3 h.length K w o'∧o'.Perm o∧makF n ms o=makF n (ms.drop i) o') ?_ ?_ ?_
  ·exact ⟨by (simp (disch:=first|exact dqb|fail) only [go_sem,↓reduceIte,Int.natCast_zero];first|done|rfl),x1,o,v1,by simp (disch:=first|exact dqb|fail) only [go_sem,↓reduceIte],o1,.refl _,rfl⟩
  ·rintro i fr K hi0 hi hA ⟨r19,xK,o',w,r7,hO,hp,hF⟩
   have p17:=hA 17 rfl
   have p18:=hA 18 rfl
   try simp (disch:=first|exact dqb|fail) only [go_sem,↓reduceIte] at p17 p18
   have hlt:((i:Int)<(ms.length:Int))=True:=eq_true (by omega)
   obtain ⟨⟨a,b⟩,em⟩:∃ m,ms[i]=m:=⟨_,rfl⟩
   have hx:ms[i]?=some (a,b):=by rw [List.getElem?_eq_getElem hi,em]
   have hMK:=hM.ext xK
   have ad:=hMK.addr (P:=prog) (i:=(i:Int)) Fc.el33 Fc.ar33 (by omega) (by omega)
   rw [Int.toNat_natCast] at ad
   have ld:=hMK.load (P:=prog) Fc.ty36 hx
   simp only [encM] at ad ld
   have hw1:=hO.one
   have hKl:=xK.len
   have hol:o'.length=n:=by rw [hp.length_eq,en]
   obtain ⟨G,eG⟩:∃ G,G=K++[mvB a b]:=⟨_,rfl⟩
   have xG:Ext K G:=by rw [eG];exact .app .refl
   have gG:G[K.length]?=some (mvB a b):=by rw [eG];exact get_eq rfl
   have hGl:=xG.len
   have iG:=(ownE_ints hO (perm_small' hp hsm)).ext xG
   have lG:=lenI iG
   have hst:makF n (ms.drop i) o'=if (0≤a∧a<(n:Int))∧(0≤b∧b<(n:Int)) then makF n (ms.drop (i+1)) (mvL o' a.toNat b.toNat) else ([],1):=by
    rw [List.drop_eq_getElem_cons hi,em,makF]
   unfold mvB at eG gG
   by_cases q1:0≤a∧a<(n:Int)
   ·have t1:decide (0≤a∧a≤(o'.length:Int)-1)=true:=decide_eq_true (by omega)
    by_cases q2:0≤b∧b<(n:Int)
    ·have t2:decide (0≤b∧b≤(o'.length:Int)-1)=true:=decide_eq_true (by omega)
     rw [if_pos ⟨q1,q2⟩] at hst
     obtain ⟨a',rfl⟩:=Int.eq_ofNat_of_zero_le q1.1
     obtain ⟨b',rfl⟩:=Int.eq_ofNat_of_zero_le q2.1
     rw [Int.toNat_natCast,Int.toNat_natCast] at hst
     obtain ⟨w2,H2,e2,x2,o2⟩:=run_made (base:=base) (f:=a') (t:=b') (by omega) iG (by omega) (by omega) (by omega)
     have ow2:=o2.one
     have hsp:=@Nat.succ_ne_zero;repeat' (first|simp (disch:=first|exact dqb|fail) only [go_sem,↓reduceIte,hsp,r19,r7,p17,p18,hlt,ad,ld,← eG,gG,lG,t1,t2,e2]|refine WP_drw ?_|refine cnd_intro (fun hsp=>?_) fun hsp=>?_)
     refine ⟨agq,by omega,xK.trans (xG.trans x2),_,w2,rfl,OwnE.low (b':=h.length) (.inl o2) (by omega),(mvL_perm (by omega) (by omega)).trans hp,by rw [hF,hst]⟩
    ·have t2:decide (0≤b∧b≤(o'.length:Int)-1)=false:=decide_eq_false (by omega)
     rw [if_neg (fun q=>q2 q.2)] at hst
     have hsp:=@Nat.succ_ne_zero;repeat' (first|simp (disch:=first|exact dqb|fail) only [go_sem,↓reduceIte,hsp,r19,r7,p17,p18,hlt,ad,ld,← eG,gG,lG,t1,t2]|refine WP_drw ?_|refine cnd_intro (fun hsp=>?_) fun hsp=>?_)
     exact ⟨xK.trans xG,_,by rw [hF,hst],by rw [hF,hst];exact .inl Own.nil⟩
   ·have t1:decide (0≤a∧a≤(o'.length:Int)-1)=false:=decide_eq_false (by omega)
    rw [if_neg (fun q=>q1 q.1)] at hst
    have hsp:=@Nat.succ_ne_zero;repeat' (first|simp (disch:=first|exact dqb|fail) only [go_sem,↓reduceIte,hsp,r19,r7,p17,p18,hlt,ad,ld,← eG,gG,lG,t1]|refine WP_drw ?_|refine cnd_intro (fun hsp=>?_) fun hsp=>?_)
    exact ⟨xK.trans xG,_,by rw [hF,hst],by rw [hF,hst];exact .inl Own.nil⟩
  ·rintro fr K hA ⟨r19,xK,o',w,r7,hO,hp,hF⟩
   have p17:=hA 17 rfl
   have p18:=hA 18 rfl
   try simp (disch:=first|exact dqb|fail) only [go_sem,↓reduceIte] at p17 p18
   have hlt:((ms.length:Int)<(ms.length:Int))=False:=eq_false (by omega)
   have hw1:=hO.one
   rw [List.drop_length,makF] at hF
   have hsp:=@Nat.succ_ne_zero;repeat' (first|simp (disch:=first|exact dqb|fail) only [go_sem,↓reduceIte,hsp,r19,r7,p17,p18,hlt]|refine WP_drw ?_|refine cnd_intro (fun hsp=>?_) fun hsp=>?_)
   exact ⟨xK,_,by rw [hF],by rw [hF];exact hO⟩
 ·have t1:(aloL o=0)=False:=eq_false c
  have r:makE o ms=([],aloL o):=by unfold makE;rw [if_neg c]
  rw [r]
  refine ret_raw func26 rfl (by kernel_rfl) ?_
  have hsp:=@Nat.succ_ne_zero;repeat' (first|simp (disch:=first|exact dqb|fail) only [go_sem,↓reduceIte,hsp,ha,t1]|refine WP_drw ?_|refine cnd_intro (fun hsp=>?_) fun hsp=>?_)
  exact ⟨.refl,_,rfl,.inl Own.nil⟩
end Go.AM
namespace Go.AM
open Go.Proofs.Try
attribute [-go_sem] put_ne put_same
attribute [local go_sem ↓] put_if
end Go.AM
namespace Go.AM
end Go.AM
namespace Go.AM
open Go.Proofs.Try
attribute [-go_sem] put_ne put_same
attribute [local go_sem ↓] put_if
def wvL (L:Lac) (o:List Int) (n:Nat):List Int:=lst (fun t=>L.C.getD (o.getD (t % o.length) 0).toNat 0) n
theorem wvL_succ {L:Lac} {o:List Int} {n:Nat}:wvL L o (n+1)=wvL L o n++[L.C.getD (o.getD (n % o.length) 0).toNat 0]:=lst_succ
theorem wvL_len {L:Lac} {o:List Int} {n:Nat}:(wvL L o n).length=n:=lst_len
def wvE (L:Lac) (o:List Int) (n:Int):List Int × Int:=if lcdE L o=0 then (if 0≤n∧n≤999 then (wvL L o n.toNat,0) else ([],3)) else ([],lcdE L o)
set_option maxHeartbeats 2000000 in
theorem run_Weave {base:Nat} {h:Heap} {v ov:AVal} {L:Lac} {o:List Int} {n:Int} (hb:base≤h.length) (hL:LacAt h v L) (hO:Ints h ov o) :
  Ret prog raw base (.fn 57 [] []) [v,ov,.int .i64 n] h (fun w H=>Ext h H∧∃ x,w=.tuple [x,.int .i64 (wvE L o n).2]∧Own encI 3 h.length H x (wvE L o n).1):=by
 have hL0:=hL
 obtain ⟨cv,rv,rfl,hC,hR⟩:=hL
 have o1:=hC.one
 have o2:=hR.one
 have o3:=hO.one
 obtain ⟨G0,eG0⟩:∃ G0,G0=h++[lacB L.T cv rv]:=⟨_,rfl⟩
 have x0:Ext h G0:=by rw [eG0];exact .app .refl
 have g0:G0[h.length]?=some (lacB L.T cv rv):=by rw [eG0];exact get_eq rfl
 have l0:G0.length=h.length+1:=by rw [eG0];simp
 obtain ⟨w1,H1,e1,x1,a,rfl,oa,ha⟩:=run_laced (base:=base) (h:=G0) (by omega) (hL0.ext x0) (hO.ext x0)
 have l1:=x1.len
 have g1:=x1.get g0
 have xh:=x0.trans x1
 have hin:=fun base H=>run_in (base:=base) (h:=H) (n:=n) (lo:=0) (hi:=999)
 unfold lacB at eG0 g0 g1
 refine ret_raw func57 rfl (by kernel_rfl) ?_
 by_cases c:lcdE L o=0
 ·obtain ⟨c1,c2⟩:=lcdE_ok c
  have kn:=(chkL_iff.1 c1).n
  rw [c] at e1
  by_cases c3:0≤n∧n≤999
  ·have r:wvE L o n=(wvL L o n.toNat,0):=by unfold wvE;rw [if_pos c,if_pos c3]
   rw [r]
   obtain ⟨m,rfl⟩:=Int.eq_ofNat_of_zero_le c3.1
   rw [Int.toNat_natCast]
   rw [decide_eq_true c3] at hin
   have hsp:=@Nat.succ_ne_zero;repeat' (first|simp (disch:=first|exact dqb|fail) only [go_sem,↓reduceIte,hsp,← eG0,g0,e1,eq_self,hin]|refine WP_drw ?_|refine cnd_intro (fun hsp=>?_) fun hsp=>?_)
   refine WP_count [(10,11),(25,42)] 0 m (Nat.zero_le _) (fun _ i fr H=>fr 25=.int .i64 (i:Int)∧Ext H1 H∧∃ w,fr 10=w∧Own encI 3 H1.length H w (wvL L o i)) ?_ ?_ ?_
   ·exact ⟨by (simp (disch:=first|exact dqb|fail) only [go_sem,↓reduceIte,Int.natCast_zero];first|done|rfl),.refl,.slice none 0 0,by simp (disch:=first|exact dqb|fail) only [go_sem,↓reduceIte],Own.nil⟩
   ·rintro i fr H hi0 hi hA ⟨r25,xH,w,r10,hW⟩
    have q1:=hA 1 rfl
    have q3:=hA 3 rfl
    have q6:=hA 6 rfl
    have q7:=hA 7 rfl
    have q24:=hA 24 rfl
    try simp (disch:=first|exact dqb|fail) only [go_sem,↓reduceIte] at q1 q3 q6 q7 q24
    have hlt:((i:Int)<(m:Int))=True:=eq_true (by omega)
    have ow:=hW.one
    have lH:=xH.len
    have gH:=xH.get g1
    have iO:=hO.ext (xh.trans xH)
    have iC:=hC.ext (xh.trans xH)
    have hol:=lenI iO
    have hm:=c2.1
    have hrem:=remN (x:=(i:Int)) (n:=o.length) (by omega) (by omega)
    rw [Int.toNat_natCast] at hrem
    obtain ⟨j,ej⟩:∃ j,j=i % o.length:=⟨_,rfl⟩
    rw [← ej] at hrem
    have hj:j<o.length:=by rw [ej];exact Nat.mod_lt _ (by omega)
    have aj:=adrI (i:=(j:Int)) (by omega) iO (by omega)
    rw [Int.toNat_natCast] at aj
    have lj:=loadI iO hj
    have hk:=c2.2.1 _ (getD_mem hj)
    obtain ⟨k,ek⟩:=Int.eq_ofNat_of_zero_le hk.1
    rw [ek] at lj hk
    have ak:=adrI (i:=(k:Int)) (by omega) iC (by omega)
    rw [Int.toNat_natCast] at ak
    have lk:=loadI iC (i:=k) (by omega)
    obtain ⟨w',K2,ea,oW,lW,eW,oneW,kW⟩:=OwnE.snocI (base:=base) (x:=L.C.getD k 0) (.inl hW) (by omega) lH (by rw [wvL_len];omega)
    have hs:wvL L o (i+1)=wvL L o i++[L.C.getD k 0]:=by rw [wvL_succ,← ej,ek,Int.toNat_natCast]
    have hsp:=@Nat.succ_ne_zero;repeat' (first|simp (disch:=first|exact dqb|fail) only [go_sem,↓reduceIte,hsp,r25,r10,q1,q3,q6,q7,q24,hlt,gH,hol,hrem,aj,lj,ak,lk,ea]|refine WP_drw ?_|refine cnd_intro (fun hsp=>?_) fun hsp=>?_)
    exact ⟨agq,by omega,eW _ (Nat.le_refl _) xH,w',rfl,by rw [hs];exact oW⟩
   ·rintro fr H hA ⟨r25,xH,w,r10,hW⟩
    have q1:=hA 1 rfl
    have q3:=hA 3 rfl
    have q6:=hA 6 rfl
    have q7:=hA 7 rfl
    have q24:=hA 24 rfl
    try simp (disch:=first|exact dqb|fail) only [go_sem,↓reduceIte] at q1 q3 q6 q7 q24
    have hlt:((m:Int)<(m:Int))=False:=eq_false (by omega)
    have ow:=hW.one
    have hsp:=@Nat.succ_ne_zero;repeat' (first|simp (disch:=first|exact dqb|fail) only [go_sem,↓reduceIte,hsp,r25,r10,q1,q3,q6,q7,q24,hlt]|refine WP_drw ?_|refine cnd_intro (fun hsp=>?_) fun hsp=>?_)
    exact ⟨xh.trans xH,_,rfl,hW.low (by omega)⟩
  ·have r:wvE L o n=([],3):=by unfold wvE;rw [if_pos c,if_neg c3]
   rw [r]
   rw [decide_eq_false c3] at hin
   have hsp:=@Nat.succ_ne_zero;repeat' (first|simp (disch:=first|exact dqb|fail) only [go_sem,↓reduceIte,hsp,← eG0,g0,e1,eq_self,hin]|refine WP_drw ?_|refine cnd_intro (fun hsp=>?_) fun hsp=>?_)
   exact ⟨xh,_,rfl,Own.nil⟩
 ·have t0:(lcdE L o=0)=False:=eq_false c
  have r:wvE L o n=([],lcdE L o):=by unfold wvE;rw [if_neg c]
  rw [r]
  have hsp:=@Nat.succ_ne_zero;repeat' (first|simp (disch:=first|exact dqb|fail) only [go_sem,↓reduceIte,hsp,← eG0,g0,e1,t0]|refine WP_drw ?_|refine cnd_intro (fun hsp=>?_) fun hsp=>?_)
  exact ⟨xh,_,rfl,Own.nil⟩
def trdE (L:Lac) (o ring:List Int):List Int × Int :=
 if lcdE L o ≠ 0 then ([],lcdE L o) else if ring.length<2 then ([],2) else if ¬ (ring.all fun x=>decide (0≤x∧x≤(L.C.length:Int)-1))=true then ([],1) else if twB ring=true then ([],5) else
 if (xplD L o o.length && xplD L (trnL o ring) o.length)=true then (trnL o ring,0) else ([],8)
end Go.AM
namespace Go.AM
open Go.Proofs.Try
attribute [-go_sem] put_ne put_same
attribute [local go_sem ↓] put_if
def IsRing (L:Lac) (l:List Int):Prop:=∃ o1 o2 a r,(fnd L)[0]?=some o1∧(fnd L)[1]?=some o2∧a<L.C.length∧o1.getD a 0 ≠ o2.getD a 0∧0<r∧itr o1 o2 a r=a∧(∀ i,0<i→i<r→itr o1 o2 a i ≠ a)∧l=rngL o1 o2 a r
def rngE (L:Lac):Int:=if (fndE L).2=0 then (if (fnd L).length=1 then 6 else 0) else (fndE L).2
end Go.AM
namespace Go.AM
open Go.Proofs.Try
section
variable {α:Type} {E:Enc α} {P:Program} {base:Nat} {h:Heap} {v:AVal} {l:List α} {t e:TypeId} {zs:List AVal}
theorem app_empE (hR:Rows E h v l) (hl:l ≠ []) (hs:∀ y,(E.cells y).all AVal.scalar=true) (hsz:l.length<2147483648) (ht:elS P t=some (e,E.z,zs)) :
  appendA P base h t .emp v=some (.slice (some ⟨h.length,0,0⟩) l.length l.length,h++[rowE E e l 0]):=by
 have hn:l.length ≠ 0:=fun q=>hl (List.eq_nil_of_length_eq_zero q)
 simp only [appendA,ht,hR.lenA,hR.firstN,flat_scalar hs,if_true]
 rw [if_neg hn,if_pos (show l.length<2 ^ 31 by omega)]
 first|done|rfl
end
end Go.AM
namespace Go.AM
open Go.Proofs.Try
attribute [-go_sem] put_ne put_same
attribute [local go_sem ↓] put_if
end Go.AM
namespace Go.AM
open Go.Proofs.Try
attribute [-go_sem] put_ne put_same
attribute [local go_sem ↓] put_if
def moreR (L:Lac) (r:Rw3):Lac:=⟨L.T,L.C,L.R++[r]⟩
def lac0:Lac:=⟨0,[],[]⟩
def seeE (L:Lac) (r:Rw3):Lac × Int:=if chkL L=0 then (if L.R.length=12 then (lac0,9) else if chkL (moreR L r)=0 then (moreR L r,0) else (lac0,chkL (moreR L r))) else (lac0,chkL L)
def OwnC (b:Nat) (H:Heap) (v:AVal) (L:Lac):Prop:=∃ cv rv,v=.agg [.int .i64 L.T,cv,rv]∧OwnE encI 3 b H cv L.C∧OwnE encR 70 b H rv L.R
theorem lac_small {L:Lac} (h:chkL L=0):Small L.C:=by
 obtain ⟨kT,kn,km,kc,kr,kd⟩:=chkL_iff.1 h
 refine ⟨by omega,fun x hx=>?_⟩
 have h1:=kc x hx
 have h2:(2:Int) ^ L.T.toNat≤2 ^ 8:=by exact_mod_cast Nat.pow_le_pow_right (by decide) (show L.T.toNat≤8 by omega)
 omega
end Go.AM
namespace Go.AM
open Go.Proofs.Try
attribute [-go_sem] put_ne put_same
attribute [local go_sem ↓] put_if
end Go.AM
namespace Go.AM
open Go.Proofs.Try
attribute [-go_sem] put_ne put_same
attribute [local go_sem ↓] put_if
def mndE (o:List Int):List (Int × Int) × Int:=if aloL o=0 then (mndL o,0) else ([],aloL o)
theorem mndN_succ {s:MndS} {k:Nat}:mndN s (k+1)=mndS (mndN s k) (k:Int):=rfl
end Go.AM
namespace Go.AM
open Go.Proofs.Try
attribute [-go_sem] put_ne put_same
attribute [local go_sem ↓] put_if
structure PilAt (b:Nat) (H:Heap) (u:AVal) (vs:List AVal) (ps:List (List Int)):Prop where
 own:Own encZ 25 b H u vs
 len:vs.length=ps.length
 el:∀ (i:Nat) x t,vs[i]?=some x→ps[i]?=some t→Own encI 3 b H x t
 apart:∀ (i j:Nat) x y,i ≠ j→vs[i]?=some x→vs[j]?=some y→Asun x y
end Go.AM
namespace Go.AM
open Go.Proofs.Try
attribute [-go_sem] put_ne put_same
attribute [local go_sem ↓] put_if
def pilE (o:List Int):List (List Int) × Int:=if aloL o=0 then (pilN o o.length,0) else ([],aloL o)
end Go.AM
namespace Go.AM
open Go.Proofs.Try
attribute [-go_sem] put_ne put_same
attribute [local go_sem ↓] put_if
end Go.AM
namespace Go.AM
open Go.Proofs.Try
attribute [-go_sem] put_ne put_same
attribute [local go_sem ↓] put_if
def badAt (o pile:List Int) (i:Nat):Bool :=
 !decide (0≤pile.getD i 0∧pile.getD i 0≤(o.length:Int)-1) || (decide (0<i) && (decide (pile.getD i 0≤pile.getD (i-1) 0) || decide (o.getD (pile.getD i 0).toNat 0 ≥ o.getD (pile.getD (i-1) 0).toNat 0)))
def pilB (o pile:List Int):Bool:=decide (pile ≠ []) && (List.range pile.length).all fun i=>!badAt o pile i
def shwE (o:List Int) (ps:List (List Int)):Int × Int :=
 if aloL o ≠ 0 then (0,aloL o) else if ps.all (pilB o)=false then (0,8) else if ps.flatten.length ≠ o.length ∨ twB ps.flatten=true then (0,8) else ((ps.length:Int),0)
end Go.AM
namespace Go.AM
theorem upto_nd (n:Nat):(upto n).Nodup:=(upto_sorted n).imp fun h=>by omega
end Go.AM
namespace Go.AM
open Go.Proofs.Try
attribute [-go_sem] put_ne put_same
attribute [local go_sem ↓] put_if
def looks (L:Lac) (real ps:List Int):List Rw3:=ps.map fun p=>(p,2 ^ L.T.toNat-1,L.C.getD (real.getD p.toNat 0).toNat 0)
def shwL (L:Lac) (real ps:List Int):Lac:=⟨L.T,L.C,L.R++looks L real ps⟩
theorem snocR {b base:Nat} {A:Heap} {w:AVal} {l:List Rw3} {r:Rw3} (hO:OwnE encR 70 b A w l) (hb:base≤b) (hbh:b≤A.length) (hl:l.length≤1000000) :
  ∃ w' H,appendA prog base (A++[rowE encR 70 [r] 0]) 42 w (.slice (some ⟨A.length,0,0⟩) 1 1)=some (w',H)∧Own encR 70 b H w' (l++[r])∧A.length≤H.length∧(∀ G,G.length≤b→Ext G A→Ext G H)∧One w'∧KeepO encR 70 A H:=by
 obtain ⟨B,eB⟩:∃ B,B=A++[rowE encR 70 [r] 0]:=⟨_,rfl⟩
 have xB:Ext A B:=by rw [eB];exact .app .refl
 have lB':B.length=A.length+1:=by rw [eB];simp
 have hx:Rows encR B (.slice (some ⟨A.length,0,0⟩) 1 1) [r]:=Rows.own (by rw [eB];exact get_eq rfl) rfl (by simp)
 rw [← eB]
 rcases hO with hO|⟨rfl,rfl⟩
 ·obtain ⟨w',H,a1,a2,a3,a4,a5,a6⟩:=(hO.ext xB).appendRX (P:=prog) (base:=base) (t:=42) hx Fc.el42 encR_sc hb (by omega) (by simp) (by simp;omega)
  have a6:KeepO encR 70 B H:=a6
  exact ⟨w',H,a1,a2,by omega,fun G h1 h2=>a4 G h1 (h2.trans xB),a5,fun i y hi hy=>a6 i y (xB.get hi) hy⟩
 ·have:=app_empE (base:=base) hx (by simp) encR_sc (by simp) Fc.el42
  exact ⟨_,_,this,.inr ⟨B.length,0,rfl,get_eq rfl,by omega,by simp⟩,by simp;omega,fun G _ q=>(q.trans xB).trans (.app .refl),⟨rfl,rfl,rfl⟩,fun i y hi _=>get_app (xB.get hi)⟩
end Go.AM
namespace Go.AM
open Go.Proofs.Try
end Go.AM
namespace Go.AM
open Go.Proofs.Try
attribute [-go_sem] put_ne put_same
attribute [local go_sem ↓] put_if
structure SeenOk (T:Int) (C o:List Int) (r:Rw3):Prop where
 t:0≤r.1∧r.1≤60
 m:0≤r.2.1∧r.2.1≤2 ^ T.toNat-1
 s:0≤r.2.2
 is:(C.getD (o.getD (r.1.toNat % C.length) 0).toNat 0).toNat &&& r.2.1.toNat=r.2.2.toNat
theorem pow_le8 {T:Int} (h:1≤T∧T≤8):(1:Int)≤2 ^ T.toNat∧(2:Int) ^ T.toNat≤256:=by
 refine ⟨by exact_mod_cast Nat.one_le_two_pow,?_⟩
 have h2:(2:Int) ^ T.toNat≤2 ^ 8:=by exact_mod_cast Nat.pow_le_pow_right (by decide) (show T.toNat≤8 by omega)
 simpa using h2
end Go.AM
namespace Go.AM
end Go.AM
namespace Go.AM
open Go.Proofs.Try
attribute [-go_sem] put_ne put_same
attribute [local go_sem ↓] put_if
def cntK (os:List (List Int)) (p n i:Nat):List Int:=lst (fun k=>(((os.take i).countP fun o=>decide (o.getD p 0=(k:Int)):Nat):Int)) n
theorem cntK_len {os:List (List Int)} {p n i:Nat}:(cntK os p n i).length=n:=lst_len
theorem cntK_step {os:List (List Int)} {p n i c:Nat} {o:List Int} (ho:os[i]?=some o) (hc:o.getD p 0=(c:Int)) (hn:c<n):(cntK os p n i).set c ((cntK os p n i).getD c 0+1)=cntK os p n (i+1):=by
 unfold cntK
 rw [lst_get hn,lst_set hn]
 refine lst_congr fun k hk=>?_
 rw [List.take_add_one,ho,List.countP_append]
 by_cases e:k=c
 ·subst e
  rw [if_pos rfl,show List.countP (fun o=>decide (o.getD p 0=(k:Int))) (some o).toList=1 from List.countP_cons_of_pos (decide_eq_true hc)]
  omega
 ·rw [if_neg e,show List.countP (fun o=>decide (o.getD p 0=(k:Int))) (some o).toList=0 from List.countP_cons_of_neg (by rw [decide_eq_true_eq,hc];omega)]
  omega
theorem cntK_bd {os:List (List Int)} {p n i k:Nat} (hk:k<n):0≤(cntK os p n i).getD k 0∧(cntK os p n i).getD k 0≤(os.length:Int):=by
 unfold cntK
 rw [lst_get hk]
 have h1:(os.take i).countP (fun o=>decide (o.getD p 0=(k:Int)))≤(os.take i).length:=List.countP_le_length
 have h2:(os.take i).length≤os.length:=List.length_take_le' ..
 omega
theorem cntK_zero {os:List (List Int)} {p n:Nat}:cntK os p n 0=List.replicate n 0:=by
 refine lst_ext (by rw [cntK_len,List.length_replicate]) fun i hi=>?_
 rw [cntK_len] at hi
 unfold cntK
 rw [lst_get hi,List.take_zero,List.getD_eq_getElem?_getD,List.getElem?_replicate,if_pos hi]
 rfl
theorem cntK_all {os:List (List Int)} {p n:Nat}:grt (cntK os p n os.length)=lvsN n os p:=by
 unfold cntK lvsN
 rw [List.take_length]
set_option maxHeartbeats 1000000 in
theorem run_lvs {base a b id p bb:Nat} {h:Heap} {x:AVal} {L:Lac} {os:List (List Int)} (ga:h[a]?=some (pB id)) (gb:h[b]?=some (lsB x)) (hD:DskAt h id L) (hn:1≤L.C.length∧L.C.length≤7) (hA:AllI bb h x os) (hl:os.length≤823543) (ho:∀ o ∈ os,Ord L.C.length o) (hp:p<L.C.length) :
  callL prog raw base (.fn 129 [] [.ptr (some ⟨a,0,0⟩),.ptr (some ⟨b,0,0⟩)]) [.int .i64 (p:Int)] h=some (.int .i64 (lvsN L.C.length os p),h):=by
 obtain ⟨cv,rv,hg,hC,-⟩:=hD
 have la:=lt_of_get ga
 have lb:=lt_of_get gb
 have lid:=lt_of_get hg
 have ox:=hA.one
 have lc:=ld_cards hg
 have hlc:=lenI hC
 obtain ⟨G,eG⟩:∃ G,G=h++[srB (cntK os p L.C.length 0) 3 0]:=⟨_,rfl⟩
 have mk:makeSliceA prog h 25 (.int .i64 (L.C.length:Int)) (.int .i64 (L.C.length:Int))=some (.slice (some ⟨h.length,0,0⟩) L.C.length L.C.length,G):=by
  rw [make_full Fc.el25 (by omega) (by omega),rep_zero,eG,cntK_zero]
 have xG:Ext h G:=by rw [eG];exact .app .refl
 have gbG:=xG.get gb
 have hlx:=(hA.ext xG).len (by omega)
 unfold pB at ga
 unfold lsB at gb gbG
 refine callL_run func129 rfl rfl ?_
 have hsp:=@Nat.succ_ne_zero;repeat' (first|simp (disch:=first|exact dqb|fail) only [go_sem,↓reduceIte,hsp,ga,lc,hlc,mk,gbG,hlx]|refine WP_drw ?_|refine cnd_intro (fun hsp=>?_) fun hsp=>?_)
 refine WP_count [(7,7),(17,30)] 0 os.length (Nat.zero_le _) (fun _ i fr H=>fr 17=.int .i64 (i:Int)∧H=h++[srB (cntK os p L.C.length i) 3 0]) ?_ ?_ ?_
 ·exact ⟨by (simp (disch:=first|exact dqb|fail) only [go_sem,↓reduceIte,Int.natCast_zero];first|done|rfl),eG⟩
 ·rintro i fr H hi0 hi hA2 ⟨r17,eH⟩
  have q0:=hA2 0 rfl
  have q4:=hA2 4 rfl
  have q5:=hA2 5 rfl
  have q15:=hA2 15 rfl
  have q16:=hA2 16 rfl
  try simp (disch:=first|exact dqb|fail) only [go_sem,↓reduceIte] at q0 q4 q5 q15 q16
  have hlt:((i:Int)<(os.length:Int))=True:=eq_true (by omega)
  obtain ⟨o,eo⟩:∃ o,o=os[i]:=⟨_,rfl⟩
  have hoi:os[i]?=some o:=by rw [eo];exact List.getElem?_eq_getElem hi
  have hoo:=ho o (List.mem_of_getElem? hoi)
  have xH:Ext h H:=by rw [eH];exact .app .refl
  have gH:H[h.length]?=some (srB (cntK os p L.C.length i) 3 0):=by rw [eH];exact get_eq rfl
  obtain ⟨ea,w,ad,ld,ow⟩:=hA.at (by omega) hoi
  have ld0:=ld H xH
  have oww:=ow.one
  have iw:=ownE_ints (ow.ext xH) (ord_small hoo (by omega))
  have hpo:p<o.length:=by rw [hoo.1];exact hp
  have ap:=adrI (i:=(p:Int)) (by omega) iw (by omega)
  rw [Int.toNat_natCast] at ap
  have lp:=loadI iw hpo
  have hr:=hoo.2.1 _ (getD_mem hpo)
  obtain ⟨c,ec⟩:=Int.eq_ofNat_of_zero_le hr.1
  rw [ec] at lp
  have hcn:c<L.C.length:=by omega
  have hcl:=cntK_len (os:=os) (p:=p) (n:=L.C.length) (i:=i)
  have hbd:=cntK_bd (os:=os) (p:=p) (i:=i) hcn
  have ac:indexAddrA prog 25 (.slice (some ⟨h.length,0,0⟩) L.C.length L.C.length) (.int .i64 (c:Int))=some (.ptr (some ⟨h.length,0,c⟩)):=by
   rw [adr_sl Fc.el25 Fc.ar25 (by omega) (by omega),Int.toNat_natCast,Nat.mul_one,Nat.zero_add]
  obtain ⟨m,em⟩:∃ m,m=(cntK os p L.C.length i).getD c 0:=⟨_,rfl⟩
  have d1:loadP prog H 3 (.ptr (some ⟨h.length,0,c⟩))=some (.int .i64 m):=by
   rw [load_eq,Fc.ty3,gH,em];exact ldB_ints (by omega)
  have hst:∀ {F:ABlk→Heap},stQ base h.length (some (srB (cntK os p L.C.length i) 3 0)) 0 c [.int .i64 (m+1)] F=some (F (srB (cntK os p L.C.length (i+1)) 3 0)):=fun {F}=>by
   rw [stQ_ints (by omega),em,cntK_step hoi ec hcn]
  have hst2:∀ {F:ABlk→Heap},stQ h.length h.length (some (srB (cntK os p L.C.length i) 3 0)) 0 c [.int .i64 (m+1)] F=some (F (srB (cntK os p L.C.length (i+1)) 3 0)):=fun {F}=>by
   rw [stQ_ints (by omega),em,cntK_step hoi ec hcn]
  have hset:H.set h.length (srB (cntK os p L.C.length (i+1)) 3 0)=h++[srB (cntK os p L.C.length (i+1)) 3 0]:=by
   rw [eH,List.set_append_right _ _ (Nat.le_refl _),Nat.sub_self];rfl
  have hmb:0≤m∧m≤823543:=by omega
  have hsp:=@Nat.succ_ne_zero;repeat' (first|simp (disch:=first|exact dqb|fail) only [go_sem,↓reduceIte,hsp,r17,q0,q4,q5,q15,q16,hlt,ad,ld0,ap,lp,ac,d1,gH,hst2]|refine WP_drw ?_|refine cnd_intro (fun hsp=>?_) fun hsp=>?_)
  exact ⟨agq,by omega,hset⟩
 ·rintro fr H hA2 ⟨r17,eH⟩
  have q0:=hA2 0 rfl
  have q4:=hA2 4 rfl
  have q5:=hA2 5 rfl
  have q15:=hA2 15 rfl
  have q16:=hA2 16 rfl
  try simp (disch:=first|exact dqb|fail) only [go_sem,↓reduceIte] at q0 q4 q5 q15 q16
  have hlt:((os.length:Int)<(os.length:Int))=False:=eq_false (by omega)
  have gH:H[h.length]?=some (srB (cntK os p L.C.length os.length) 3 0):=by rw [eH];exact get_eq rfl
  have hs:Small (cntK os p L.C.length os.length):=⟨by rw [cntK_len];omega,fun y hy=>by
   obtain ⟨k,hk,e⟩:=List.mem_iff_getElem.1 hy
   rw [cntK_len] at hk
   have:=cntK_bd (os:=os) (p:=p) (i:=os.length) hk
   rw [getD_at (by rw [cntK_len];exact hk),e] at this
   omega⟩
  have hI:Ints H (.slice (some ⟨h.length,0,0⟩) L.C.length L.C.length) (cntK os p L.C.length os.length):=by
   rw [eH];exact slice_row rfl (by rw [cntK_len]) hs
  have hgr:=fun base=>run_greatest (base:=base) hI
  rw [cntK_all] at hgr
  have hsp:=@Nat.succ_ne_zero;repeat' (first|simp (disch:=first|exact dqb|fail) only [go_sem,↓reduceIte,hsp,r17,q0,q4,q5,q15,q16,hlt,hgr]|refine WP_drw ?_|refine cnd_intro (fun hsp=>?_) fun hsp=>?_)
  exact fI rfl (by rw [eH];exact .app .refl)
def askE (L:Lac):Int × Int × Int:=if (fndE L).2=0 then ((askN L.C.length (fnd L) L.C.length).1,(askN L.C.length (fnd L) L.C.length).2,0) else (0,0,(fndE L).2)
end Go.AM
