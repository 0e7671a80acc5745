/-
  Contracts: looms at work (opened, Excluded).
-/
import Derived.Test.YtcemgempgbjbeaaGreatU14
set_option linter.unusedSimpArgs false
set_option linter.unusedVariables false
namespace Go.AM
namespace F4
open Go.Proofs.Tryz
attribute [-go_sem] put_ne put_same
attribute [local go_sem ↓] put_if
def DeskAt (H:Heap) (v:AVal) (L:Lom) (bad:List Int) (ms:List (List Bool)):Prop :=
 ∃ id mid pv sv bv,v=.ptr (some ⟨id,0,0⟩)∧H[id]?=some (deskB L pv sv bv (.slice (some ⟨mid,0,0⟩) L.ps.length L.ps.length))∧Parts H pv L.ps∧Rows encS H sv L.ss∧Ints H bv bad ∧
  H[mid]?=some (rowE encM 244 ms 0)∧ms.length=L.ps.length∧(∀ m ∈ ms,m.length=12)
theorem DeskAt.ext {h H:Heap} {v:AVal} {L:Lom} {bad:List Int} {ms:List (List Bool)} (x:DeskAt h v L bad ms) (e:Ext h H):DeskAt H v L bad ms:=by
 obtain ⟨id,mid,pv,sv,bv,h1,h2,h3,h4,h5,h6,h7⟩:=x
 exact ⟨id,mid,pv,sv,bv,h1,e.get h2,h3.ext e,h4.ext e,h5.ext e,e.get h6,h7⟩
theorem deskN_sub {L:Lom} (o:List Int):∀ x ∈ (deskN L o).1,x ∈ o:=by
 suffices g:∀ (o:List Int) (d:List Int × List (List Bool)),∀ x ∈ (o.foldl (deskS L) d).1,x ∈ d.1 ∨ x ∈ o by
  intro x hx
  rcases g o _ x hx with q|q
  ·cases q
  ·exact q
 intro o
 induction o with
 | nil=>intro d x hx;exact .inl hx
 | cons i o ih =>
  intro d x hx
  rcases ih _ x hx with q|q
  ·unfold deskS at q
   split at q
   ·split at q
    ·rcases List.mem_append.1 q with q|q
     ·exact .inl q
     ·exact .inr (by simp at q;simp [q])
    ·exact .inl q
   ·exact .inl q
  ·exact .inr (List.mem_cons_of_mem _ q)
theorem upto_mem {n:Nat} {x:Int}:x ∈ upto n ↔ 0≤x∧x<(n:Int):=by
 unfold upto lst
 simp only [List.mem_map,List.mem_range]
 constructor
 ·rintro ⟨i,hi,rfl⟩;omega
 ·intro ⟨h1,h2⟩;exact ⟨x.toNat,by omega,by omega⟩
def LomOk (L:Lom):Prop:=(∀ p ∈ L.ps,Small p.rib)∧L.ps.length≤1048576∧L.ss.length≤1048576∧(∀ p ∈ L.ps,p.each≤p.each)∧(∀ p ∈ L.ps,p.rib.length≤1000)
theorem run_check' {base:Nat} {h:Heap} {v:AVal} {L:Lom} (hL:LomAt h v L) (hok:LomOk L):callL prog raw base (.fn 39 [] []) [v] h=some (.int .i64 (chkM L),h) :=
 run_check hL hok.1 hok.2.1 hok.2.2.1 hok.2.2.2.1
theorem run_worked' {base:Nat} {h:Heap} {L:Lom} {pv sv ov:AVal} {o:List Int} (hb:base≤h.length) (hP:Parts h pv L.ps) (hS:Rows encS h sv L.ss) (hO:Ints h ov o) (hc:chkM L=0) (hol:o.length≤1000) (hoi:∀ i ∈ o,0≤i∧i<(L.ss.length:Int)) :
  Ret prog raw base (.fn 107 [] []) [lomV L.R L.T pv sv,ov] h (fun v H=>Ext h H∧DeskAt H v L (deskN L o).1 (deskN L o).2):=by
 obtain ⟨k1,k2,k3,k4,k5,k6⟩:=chkM_ok hc
 refine (run_worked hb hP hS hO k3 hol hoi (fun s hs=>by have:=k6 s hs;omega) (fun p hp=>by have:=k5 p hp;omega)).mono ?_
 rintro v H ⟨rfl,hE,bv,mv,g1,g2,rfl,g3⟩
 obtain ⟨d1,d2,d3⟩:=deskN_len (L:=L) o
 exact ⟨hE,h.length+2,h.length+1,pv,sv,bv,rfl,g1,hP.ext hE,hS.ext hE,(g2.rows (by omega)).ints (fun x hx=>by have:=hoi x (deskN_sub o x hx);omega),g3,d1,d2⟩
def deskA (L:Lom):List Int × List (List Bool):=deskN L (upto L.ss.length)
set_option maxHeartbeats 1000000 in
theorem run_opened {base:Nat} {h:Heap} {v:AVal} {L:Lom} (hb:base≤h.length) (hL:LomAt h v L) (hok:LomOk L) :
  Ret prog raw base (.fn 120 [] []) [v] h (fun w H=>Ext h H∧∃ x,w=.tuple [x,.int .i64 (chkM L)]∧One x∧(chkM L=0→DeskAt H x L (deskA L).1 (deskA L).2)):=by
 have hc:∀ {base:Nat} {a:ABlk},callL prog raw base (.fn 39 [] []) [v] (h++[a])=some (.int .i64 (chkM L),h++[a]):=fun {base a}=>run_check' (hL.ext (.app .refl)) hok
 obtain ⟨pv,sv,rfl,hP,hS⟩:=hL
 by_cases c1:chkM L=0
 ·obtain ⟨k1,k2,k3,k4,k5,k6⟩:=chkM_ok c1
  obtain ⟨w1,H1,e1,x1,o1⟩:=run_whole (base:=base) (h:=h++[⟨.cells [.int .i64 L.R,.int .i64 L.T,pv,sv] 62 false false,0⟩]) (R:=L.R) (T:=L.T) (pv:=pv) (by simp;omega) hP.one hS.app (by omega)
  have xh:=(Ext.app (t:=[⟨.cells [.int .i64 L.R,.int .i64 L.T,pv,sv] 62 false false,0⟩]) (Ext.refl (h:=h))).trans x1
  have hul:=upto_len (n:=L.ss.length)
  obtain ⟨w2,H2,e2,x2,o2⟩:=run_worked' (base:=base) (h:=H1) (L:=L) (ov:=w1) (o:=upto L.ss.length) (by have:=xh.len;omega) (hP.ext xh) (hS.ext xh) ((o1.rows (by omega)).ints (fun x hx=>by have:=upto_mem.1 hx;omega)) c1 (by omega) (fun i hi=>upto_mem.1 hi)
  refine ret_raw func120 rfl (by kernel_rfl) ?_
  have hsp:=@Nat.succ_ne_zero;repeat' (first|simp (disch:=first|exact dq|fail) only [go_sem,↓reduceIte,hsp,hc,c1,e1,e2,eq_self]|refine WP_drw ?_|refine cnd_intro (fun hsp=>?_) fun hsp=>?_)
  refine ⟨xh.trans x2,w2,rfl,?_,fun _=>o2⟩
  obtain ⟨id,mid,pv,sv,bv,rfl,_⟩:=o2
  exact ⟨rfl,rfl,rfl⟩
 ·have t1:(chkM L=0)=False:=eq_false c1
  refine ret_raw func120 rfl (by kernel_rfl) ?_
  have hsp:=@Nat.succ_ne_zero;repeat' (first|simp (disch:=first|exact dq|fail) only [go_sem,↓reduceIte,hsp,hc,t1]|refine WP_drw ?_|refine cnd_intro (fun hsp=>?_) fun hsp=>?_)
  exact ⟨.app .refl,_,rfl,⟨rfl,rfl,rfl⟩,fun e=>e.elim⟩
def excM (L:Lom) (k:Int):List Int × Int :=
 if chkM L ≠ 0 then ([],chkM L) else if ¬ (0≤k∧k≤(L.ps.length:Int)-1) then ([],1) else (numsN ((deskA L).2.getD k.toNat []) L.T.toNat,0)
set_option maxHeartbeats 1000000 in
theorem run_excluded {base:Nat} {h:Heap} {v:AVal} {L:Lom} {k:Int} (hb:base≤h.length) (hL:LomAt h v L) (hok:LomOk L) :
  Ret prog raw base (.fn 40 [] []) [v,.int .i64 k] h (fun w H=>Ext h H∧∃ x,w=.tuple [x,.int .i64 (excM L k).2]∧Own encI 3 h.length H x (excM L k).1):=by
 obtain ⟨pv,sv,rfl,hP,hS⟩:=id hL
 obtain ⟨w1,H1,e1,x1,y,rfl,ho,hd⟩:=run_opened (base:=base) (h:=h++[⟨.cells [.int .i64 L.R,.int .i64 L.T,pv,sv] 62 false false,0⟩]) (by simp;omega) (hL.ext (.app .refl)) hok
 have xh:=(Ext.app (t:=[⟨.cells [.int .i64 L.R,.int .i64 L.T,pv,sv] 62 false false,0⟩]) (Ext.refl (h:=h))).trans x1
 have g0:H1[h.length]?=some ⟨.cells [.int .i64 L.R,.int .i64 L.T,pv,sv] 62 false false,0⟩:=x1.get (by simp)
 have hp:∀ {base:Nat} {n:Int},callL prog raw base (.fn 121 [] []) [lomV L.R L.T pv sv,.int .i64 n] H1=some (.bool (decide (0≤n∧n≤(L.ps.length:Int)-1)),H1):=fun {base n}=>run_part (hP.ext xh) hS.one hok.2.1
 by_cases c1:chkM L=0
 ·obtain ⟨k1,k2,k3,k4,k5,k6⟩:=chkM_ok c1
  rw [c1] at e1
  by_cases c2:0≤k∧k≤(L.ps.length:Int)-1
  ·have t2:(0≤k∧k≤(L.ps.length:Int)-1)=True:=eq_true c2
   obtain ⟨id,mid,pv',sv',bv,rfl,g1,g2,g3,g4,g5,g6,g7⟩:=hd c1
   have hk:k.toNat<(deskA L).2.length:=by omega
   have hg:(deskA L).2[k.toNat]?=some ((deskA L).2.getD k.toNat []):=by rw [List.getD_eq_getElem?_getD,List.getElem?_eq_getElem hk];rfl
   have hRm:Rows encM H1 (.slice (some ⟨mid,0,0⟩) L.ps.length L.ps.length) (deskA L).2:=Rows.own g5 g6.symm (by omega)
   have hml:=g7 _ (List.mem_of_getElem? hg)
   have had:=hRm.addr (P:=prog) (i:=k) Fc.el230 Fc.ar230 (by omega) (by omega)
   have hld:=hRm.load (P:=prog) Fc.ty244 hg
   rw [encM_cells hml] at hld
   simp only [elAdr,ARef.add,Nat.zero_add,Nat.add_zero] at had hld
   have hnc:∀ {a b c:Nat},nilCheckA (.ptr (some ⟨a,b,c⟩))=some (.ptr (some ⟨a,b,c⟩)):=rfl
   rw [deskB] at g1
   obtain ⟨T,eT⟩:=Int.eq_ofNat_of_zero_le (show 0≤L.T by omega)
   obtain ⟨w2,H2,e2,x2,o2⟩:=run_numbers (base:=base) (h:=H1) (l:=(deskA L).2.getD k.toNat []) (m:=T) (by have:=xh.len;omega) hml (by omega)
   rw [← eT] at e2
   have r:excM L k=(numsN ((deskA L).2.getD k.toNat []) T,0):=by unfold excM;rw [if_neg (by simp [c1]),if_neg (by simp [c2])];rw [show L.T.toNat=T by omega]
   rw [r]
   refine ret_raw func40 rfl (by kernel_rfl) ?_
   have hsp:=@Nat.succ_ne_zero;repeat' (first|simp (disch:=first|exact dq|fail) only [go_sem,↓reduceIte,hsp,e1,eq_self,g0,g1,hp,t2,had,hld,hnc,e2]|refine WP_drw ?_|refine cnd_intro (fun hsp=>?_) fun hsp=>?_)
   exact ⟨xh.trans x2,w2,rfl,o2.low (by have:=xh.len;omega)⟩
  ·have t2:(0≤k∧k≤(L.ps.length:Int)-1)=False:=eq_false c2
   have r:excM L k=([],1):=by unfold excM;rw [if_neg (by simp [c1]),if_pos c2]
   rw [r]
   refine ret_raw func40 rfl (by kernel_rfl) ?_
   have hsp:=@Nat.succ_ne_zero;repeat' (first|simp (disch:=first|exact dq|fail) only [go_sem,↓reduceIte,hsp,e1,eq_self,g0,hp,t2]|refine WP_drw ?_|refine cnd_intro (fun hsp=>?_) fun hsp=>?_)
   exact ⟨xh,_,rfl,Own.nil⟩
 ·have t1:(chkM L=0)=False:=eq_false c1
  have r:excM L k=([],chkM L):=by unfold excM;rw [if_pos c1]
  rw [r]
  refine ret_raw func40 rfl (by kernel_rfl) ?_
  have hsp:=@Nat.succ_ne_zero;repeat' (first|simp (disch:=first|exact dq|fail) only [go_sem,↓reduceIte,hsp,e1,t1]|refine WP_drw ?_|refine cnd_intro (fun hsp=>?_) fun hsp=>?_)
  exact ⟨xh,_,rfl,Own.nil⟩
end F4
end Go.AM
namespace Go.AM
namespace F4
open Go.Proofs.Tryz
def firstE (f:Nat→Int):Nat→Int
 | 0=>0
 | n+1=>if firstE f n ≠ 0 then firstE f n else f n
theorem firstE_no {f:Nat→Int}:∀ {n:Nat},(∀ j,j<n→f j=0)→firstE f n=0
 | 0,_=>rfl
 | n+1,h=>by
  have e:=firstE_no (f:=f) (n:=n) (fun j hj=>h j (by omega))
  simp only [firstE]
  rw [if_neg (by rw [e];simp)]
  exact h n (by omega)
theorem firstE_at {f:Nat→Int} {i:Nat} (hf:f i ≠ 0) (h:∀ j,j<i→f j=0):∀ {n:Nat},i<n→firstE f n=f i
 | 0,hn=>by omega
 | n+1,hn=>by
  by_cases e:i=n
  ·subst e
   have e:=firstE_no h
   simp only [firstE]
   rw [if_neg (by rw [e];simp)]
  ·simp only [firstE,firstE_at hf h (n:=n) (by omega)];rw [if_pos hf]
theorem firstE_zero {f:Nat→Int}:∀ {n:Nat},firstE f n=0→∀ j,j<n→f j=0
 | 0,_,j,hj=>by omega
 | n+1,h,j,hj=>by
  simp only [firstE] at h
  split at h
  ·rename_i q;exact absurd h q
  ·rename_i q
   by_cases e:j=n
   ·subst e;exact h
   ·exact firstE_zero (Classical.not_not.1 q) j (by omega)
abbrev Brk:=Int × Int × Int
def brk0:Brk:=(0,0,0)
def errAt (L:Lom) (t:List Brk) (i:Nat):Int :=
 if brkM L (t.getD i brk0) ≠ 0 then brkM L (t.getD i brk0) else if 0<i∧(t.getD i brk0).1≤(t.getD (i-1) brk0).1 then 4 else 0
def truM (L:Lom) (t:List Brk):Int:=firstE (errAt L t) t.length
def prt0:Prt:=⟨[],1,0,false⟩
def spo (L:Lom) (b:Brk):List (Int × Int):=spotsN (L.ps.getD b.1.toNat prt0) b.2.1.toNat (b.2.2+1-b.2.1).toNat
def insS (S:List (Int × Int)) (x:Int × Int):List (Int × Int):=if x ∈ S then S else S++[x]
def insN (S l:List (Int × Int)):List (Int × Int):=l.foldl insS S
theorem insS_mem {S:List (Int × Int)} {x y:Int × Int}:y ∈ insS S x ↔ y ∈ S ∨ y=x:=by
 unfold insS
 split
 ·rename_i h;exact ⟨.inl,fun q=>q.elim id fun e=>e ▸ h⟩
 ·simp
theorem insN_mem {l:List (Int × Int)}:∀ {S:List (Int × Int)} {y:Int × Int},y ∈ insN S l ↔ y ∈ S ∨ y ∈ l:=by
 induction l with
 | nil=>intro S y;simp [insN]
 | cons x l ih =>
  intro S y
  show y ∈ insN (insS S x) l ↔ _
  rw [ih,insS_mem,List.mem_cons,or_assoc]
theorem insN_succ {S l:List (Int × Int)} {j:Nat} (hj:j<l.length):insN S (l.take (j+1))=insS (insN S (l.take j)) (l.getD j (0,0)):=by
 unfold insN
 rw [List.take_add_one,List.getElem?_eq_getElem hj,List.foldl_append,List.getD_eq_getElem?_getD,List.getElem?_eq_getElem hj]
 rfl
def spoS (L:Lom) (t:List Brk):Nat→List (Int × Int)
 | 0=>[]
 | n+1=>insN (spoS L t n) (spo L (t.getD n brk0))
def badN (S:List (Int × Int)) (s:Sgt):Nat→Bool
 | 0=>false
 | n+1=>badN S s n || decide ((s.rib,s.lo+(n:Int)) ∈ S)
def badA (S:List (Int × Int)) (s:Sgt):Bool:=badN S s (s.hi+1-s.lo).toNat
def sgt0:Sgt:=⟨0,0,0,false⟩
def lftN (S:List (Int × Int)) (ss:List Sgt) (n:Nat):List Int:=(upto n).filter fun i=>badA S (ss.getD i.toNat sgt0) != (ss.getD i.toNat sgt0).bad
theorem lftN_succ {S:List (Int × Int)} {ss:List Sgt} {n:Nat}:lftN S ss (n+1)=lftN S ss n++(if badA S (ss.getD n sgt0) != (ss.getD n sgt0).bad then [(n:Int)] else []):=by
 unfold lftN
 rw [upto_succ,List.filter_append]
 congr 1
 simp only [List.filter_cons,List.filter_nil,Int.toNat_natCast]
theorem lftN_len {S:List (Int × Int)} {ss:List Sgt} {n:Nat}:(lftN S ss n).length≤n:=by
 have:=List.length_filter_le (fun i:Int=>badA S (ss.getD i.toNat sgt0) != (ss.getD i.toNat sgt0).bad) (upto n)
 rw [upto_len] at this
 exact this
def lftM (L:Lom) (t:List Brk):List Int × Int :=
 if chkM L ≠ 0 then ([],chkM L) else if truM L t ≠ 0 then ([],truM L t) else (lftN (spoS L t t.length) L.ss L.ss.length,0)
def mapT (S:List (Int × Int)):List (AVal × AVal):=S.map fun x=>(.agg [.int .i64 x.1,.int .i64 x.2],.bool true)
theorem eqT94 {a b c d:Int}:eqT prog eqDepth 70 (.agg [.int .i64 a,.int .i64 b]) (.agg [.int .i64 c,.int .i64 d])=some (decide ((a,b)=(c,d))):=by
 have h:=Fc.eq70 (a0:=a) (a1:=b) (b0:=c) (b1:=d)
 have h1:prog.eqGuardType prog.depth 70=false:=by kernel_rfl
 simp only [binA,isShift,h1,Bool.false_eq_true,if_false] at h
 cases hq:eqT prog eqDepth 70 (.agg [.int .i64 a,.int .i64 b]) (.agg [.int .i64 c,.int .i64 d]) with
 | none=>rw [hq] at h;cases h
 | some r=>rw [hq] at h;simp only [Option.map_some,Option.some.injEq,AVal.bool.injEq] at h;rw [h];simp
theorem find_mapT {a b:Int}:∀ {S:List (Int × Int)},findA prog 70 (.agg [.int .i64 a,.int .i64 b]) (mapT S)=some (if (a,b) ∈ S then some (S.idxOf (a,b)) else none)
 | []=>rfl
 | (c,d) :: S=>by
  have ih:=find_mapT (a:=a) (b:=b) (S:=S)
  simp only [mapT,List.map_cons,findA,eqT94]
  by_cases h:(a,b)=(c,d)
  ·rw [h];simp
  ·rw [decide_eq_false h]
   simp only
   rw [show findA prog 70 (.agg [.int .i64 a,.int .i64 b]) (S.map fun x=>(AVal.agg [.int .i64 x.1,.int .i64 x.2],AVal.bool true))=_ from ih]
   by_cases h2:(a,b) ∈ S
   ·rw [if_pos h2,if_pos (List.mem_cons_of_mem _ h2),List.idxOf_cons,show ((c,d) == (a,b))=false from beq_false_of_ne fun e=>h e.symm];rfl
   ·rw [if_neg h2,if_neg (fun q=>(List.mem_cons.1 q).elim h h2)];rfl
theorem key94 {a b:Int}:keyOk prog eqDepth 70 (.agg [.int .i64 a,.int .i64 b])=true:=by kernel_rfl
theorem zv4:zvA prog 4=some (.bool false):=by kernel_rfl
theorem look_T {H:Heap} {m:Nat} {S:List (Int × Int)} {a b:Int} (hm:H[m]?=some ⟨.map (mapT S),0⟩):lookupA prog H 304 (.map (some m)) (.agg [.int .i64 a,.int .i64 b]) false=some (.bool (decide ((a,b) ∈ S))):=by
 simp only [lookupA,Fc.mp304,entriesA,hm,key94,if_true,find_mapT]
 by_cases h:(a,b) ∈ S
 ·have hi:=List.idxOf_lt_length_of_mem h
  rw [if_pos h,decide_eq_true h]
  simp only [mapT,List.getElem?_map,List.getElem?_eq_getElem hi,Option.map_some]
  rfl
 ·rw [if_neg h,decide_eq_false h]
  simp only [zv4]
  rfl
theorem upd_T {base:Nat} {H:Heap} {m:Nat} {S:List (Int × Int)} {a b:Int} (hb:base≤m) (hm:H[m]?=some ⟨.map (mapT S),0⟩):mapUpdateA prog base H 304 (.map (some m)) (.agg [.int .i64 a,.int .i64 b]) (.bool true)=some (H.set m ⟨.map (mapT (insS S (a,b))),0⟩):=by
 simp only [mapUpdateA,Fc.mp304,hm,key94,find_mapT]
 rw [if_pos ⟨trivial,.inl hb⟩]
 by_cases h:(a,b) ∈ S
 ·have hi:=List.idxOf_lt_length_of_mem h
  have hg:S[S.idxOf (a,b)]=(a,b):=List.getElem_idxOf hi
  rw [if_pos h]
  have e1:((mapT S)[S.idxOf (a,b)]?).map (·.1)=some (.agg [.int .i64 a,.int .i64 b]):=by
   simp only [mapT,List.getElem?_map,List.getElem?_eq_getElem hi,Option.map_some,hg]
  simp only [e1,if_true]
  congr 1
  have e2:(mapT S).set (S.idxOf (a,b)) (.agg [.int .i64 a,.int .i64 b],.bool true)=mapT S:=by
   refine List.ext_getElem? fun j=>?_
   rw [List.getElem?_set]
   split
   ·rename_i e
    subst e
    rw [if_pos (by simpa [mapT] using hi)]
    simp only [mapT,List.getElem?_map,List.getElem?_eq_getElem hi,Option.map_some,hg]
   ·rfl
  rw [e2,insS,if_pos h]
 ·rw [if_neg h]
  simp only [insS,if_neg h,mapT,List.map_append,List.map_cons,List.map_nil]
theorem rows_get {α:Type} {E:Enc α} {P:Program} {h:Heap} {v:AVal} {l:List α} {t e:TypeId} {zs:List AVal} {i:Nat} {x:α} (hR:Rows E h v l) (he:elS P t=some (e,E.z,zs)) (ha:arT P t=.none) (ht:tyA P e=some (true,E.z)) (hx:l[i]?=some x) :
  indexAddrA P t v (.int .i64 (i:Int))=some (elAdr v E.z i 0)∧loadP P h e (elAdr v E.z i 0)=some (.agg (E.cells x)):=by
 have hi:=(List.getElem?_eq_some_iff.1 hx).1
 refine ⟨?_,hR.load ht hx⟩
 have:=hR.addr he ha (i:=(i:Int)) (by omega) (by omega)
 rwa [Int.toNat_natCast] at this
theorem getD_some {α:Type} {l:List α} {i:Nat} {d:α} (h:i<l.length):l[i]?=some (l.getD i d):=by rw [List.getD_eq_getElem?_getD,List.getElem?_eq_getElem h];rfl
end F4
end Go.AM
namespace Go.AM
namespace F4
open Go.Proofs.Tryz
attribute [-go_sem] put_ne put_same
attribute [local go_sem ↓] put_if
set_option maxHeartbeats 2000000 in
theorem run_left {base:Nat} {h:Heap} {v tv:AVal} {L:Lom} {t:List Brk} (hb:base≤h.length) (hL:LomAt h v L) (hok:LomOk L) (hT:Rows encB h tv t) (htl:t.length≤1000) :
  Ret prog raw base (.fn 123 [] []) [v,tv] h (fun w H=>Ext h H∧∃ x,w=.tuple [x,.int .i64 (lftM L t).2]∧Own encI 3 h.length H x (lftM L t).1):=by
 have hc:∀ {base:Nat} {a:ABlk},callL prog raw base (.fn 39 [] []) [v] (h++[a])=some (.int .i64 (chkM L),h++[a]):=fun {base a}=>run_check' (hL.ext (.app .refl)) hok
 obtain ⟨pv,sv,rfl,hP,hS⟩:=hL
 have ho1:=hP.one
 have ho2:=hS.one
 by_cases c1:chkM L=0
 ·obtain ⟨k1,k2,k3,k4,k5,k6⟩:=chkM_ok c1
  have hlT:=(hT.app (T:=[⟨.cells [.int .i64 L.R,.int .i64 L.T,pv,sv] 62 false false,0⟩])).app (T:=[⟨.map [],0⟩]) |>.len (P:=prog) Fc.el116
  refine ret_raw func123 rfl (by kernel_rfl) ?_
  have hsp:=@Nat.succ_ne_zero;repeat' (first|simp (disch:=first|exact dq|fail) only [go_sem,↓reduceIte,hsp,hc,c1,eq_self,hlT]|refine WP_drw ?_|refine cnd_intro (fun hsp=>?_) fun hsp=>?_)
  refine WP_count [(4,5),(8,12),(26,61)] 0 t.length (Nat.zero_le _) (fun H0 i fr h'=>fr 26=.int .i64 (i:Int)∧Ext (h++[⟨.cells [.int .i64 L.R,.int .i64 L.T,pv,sv] 62 false false,0⟩]++[⟨.map (mapT (spoS L t i)),0⟩]) h'∧∀ j,j<i→errAt L t j=0) ?_ ?_ ?_
  ·exact ⟨by (simp (disch:=first|exact dq|fail) only [go_sem,↓reduceIte,Int.natCast_zero];first|done|rfl),.refl,fun j hj=>by omega⟩
  ·rintro i fr H hi0 hi hA ⟨r26,xH,her⟩
   have p1:=hA 1 rfl
   have p2:=hA 2 rfl
   have p7:=hA 7 rfl
   have p24:=hA 24 rfl
   have p25:=hA 25 rfl
   try simp (disch:=first|exact dq|fail) only [go_sem,↓reduceIte] at p1 p2 p7 p24 p25
   have hlt:((i:Int)<(t.length:Int))=True:=eq_true (by omega)
   have xh:Ext h H:=Ext.trans (.app (.app .refl)) xH
   have hHl:=xH.len
   simp only [List.length_append,List.length_cons,List.length_nil] at hHl
   have g0:H[h.length]?=some ⟨.cells [.int .i64 L.R,.int .i64 L.T,pv,sv] 62 false false,0⟩:=xH.get (by simp)
   have gm:H[h.length+1]?=some ⟨.map (mapT (spoS L t i)),0⟩:=xH.get (by simp)
   have hbi:=getD_some (d:=brk0) hi
   obtain ⟨had,hld⟩:=rows_get (P:=prog) (hT.ext xh) Fc.el116 Fc.ar116 Fc.ty67 hbi
   obtain ⟨b,eb⟩:∃ b,b=t.getD i brk0:=⟨_,rfl⟩
   rw [← eb] at hbi hld
   have hk:∀ {base:Nat} {a:ABlk},callL prog raw base (.fn 60 [] []) [lomV L.R L.T pv sv,.agg (encB.cells b)] (H++[a])=some (.int .i64 (brkM L b),H++[a]):=fun {base a}=>run_broken (hP.ext (.app xh)) ho2 hok.2.1 (by omega)
   by_cases c2:brkM L b=0
   ·obtain ⟨j1,j2,j3,j4⟩:=brkM_ok c2
    rw [c2] at hk
    have hlp:b.1.toNat<L.ps.length:=by omega
    have hpg:L.ps[b.1.toNat]?=some (L.ps.getD b.1.toNat prt0):=getD_some hlp
    have hmem:=List.mem_of_getElem? hpg
    have hpk:=k5 _ hmem
    have hrl:=hok.2.2.2.2 _ hmem
    obtain ⟨w1,H1,e1,x1,o1⟩:=run_spots (base:=base) (h:=H++[⟨.cells [.int .i64 b.1,.int .i64 b.2.1,.int .i64 b.2.2] 67 false false,0⟩]) (L:=L) (pv:=pv) (sv:=sv) (b:=b) (k:=b.1.toNat) (by simp;omega) (hP.ext (.app xh)) ho2 hpg (by omega) (by omega) (by omega) (by omega) (by omega) hrl
    have esp:spotsN (L.ps.getD b.1.toNat prt0) b.2.1.toNat (b.2.2+1-b.2.1).toNat=spo L b:=rfl
    rw [esp] at o1
    have hspl:(spo L b).length≤1000 * 2001:=by
     have q:=spotsR_len (p:=L.ps.getD b.1.toNat prt0) (a:=b.2.1.toNat) (n:=(b.2.2+1-b.2.1).toNat) _ (Nat.le_refl _)
     have e:spotsR (L.ps.getD b.1.toNat prt0) b.2.1.toNat (b.2.2+1-b.2.1).toNat (L.ps.getD b.1.toNat prt0).rib.length=spo L b:=by unfold spotsR spo spotsN;rw [List.take_length]
     rw [e] at q
     exact Nat.le_trans q (Nat.mul_le_mul hrl (by omega))
    have oR:=o1.rows (by omega)
    have hls:=oR.len (P:=prog) Fc.el63
    have gb:∀ {A:Heap},(H++[(⟨.cells [.int .i64 b.1,.int .i64 b.2.1,.int .i64 b.2.2] 67 false false,0⟩:ABlk)]++A)[H.length]?=some ⟨.cells [.int .i64 b.1,.int .i64 b.2.1,.int .i64 b.2.2] 67 false false,0⟩:=fun {A}=>by simp
    have xH1:Ext H H1:=(Ext.app .refl).trans x1
    simp only [encB] at hk had hld e1
    by_cases c3:0<i
    ·have t3:((i:Int) > 0)=True:=eq_true (by omega)
     have hbj:=getD_some (d:=brk0) (show i-1<t.length by omega)
     obtain ⟨c,ec⟩:∃ c,c=t.getD (i-1) brk0:=⟨_,rfl⟩
     rw [← ec] at hbj
     have hTx:=hT.ext (Ext.app (t:=[⟨.cells [.int .i64 b.1,.int .i64 b.2.1,.int .i64 b.2.2] 67 false false,0⟩]) xh)
     have had2:=hTx.addr (P:=prog) (i:=(i:Int)-1) Fc.el116 Fc.ar116 (by omega) (by omega)
     rw [show ((i:Int)-1).toNat=i-1 by omega] at had2
     have hfd:=elAdr_field (P:=prog) (o:=0) hTx (List.getElem?_eq_some_iff.1 hbj).1 (show fld prog 67 0=some (0,false,1) by kernel_rfl) Nat.one_ne_zero
     have hld2:=hTx.cell (P:=prog) (o:=0) Fc.ty3 hbj rfl
     simp only [encB] at had2 hfd hld2
     by_cases c4:b.1≤c.1
     ·have t4:(b.1≤c.1)=True:=eq_true c4
      have ea:errAt L t i=4:=by unfold errAt;rw [← eb,← ec,if_neg (by simp [c2]),if_pos ⟨c3,c4⟩]
      have r:lftM L t=([],4):=by
       have e:truM L t=4:=by unfold truM;rw [firstE_at (by rw [ea];decide) her hi,ea]
       unfold lftM
       rw [if_neg (by simp [c1]),if_pos (by rw [e];decide),e]
      rw [r]
      have hsp:=@Nat.succ_ne_zero;repeat' (first|simp (disch:=first|exact dq|fail) only [go_sem,↓reduceIte,hsp,r26,p1,p2,p7,p24,p25,hlt,had,hld,g0,hk,t3,had2,hfd,hld2,t4,eq_self]|refine WP_drw ?_|refine cnd_intro (fun hsp=>?_) fun hsp=>?_)
      exact ⟨.app xh,_,rfl,Own.nil⟩
     ·have t4:(b.1≤c.1)=False:=eq_false c4
      have ea:errAt L t i=0:=by unfold errAt;rw [← eb,← ec,if_neg (by simp [c2]),if_neg (fun q=>c4 q.2)]
      have hsp:=@Nat.succ_ne_zero;repeat' (first|simp (disch:=first|exact dq|fail) only [go_sem,↓reduceIte,hsp,r26,p1,p2,p7,p24,p25,hlt,had,hld,g0,hk,t3,had2,hfd,hld2,t4,eq_self,e1,hls]|refine WP_drw ?_|refine cnd_intro (fun hsp=>?_) fun hsp=>?_)
      refine WP_count [(12,12),(54,60)] 0 (spo L b).length (Nat.zero_le _) (fun H0 j fr h'=>fr 54=.int .i64 (j:Int)∧Ext (H0.set (h.length+1) ⟨.map (mapT (insN (spoS L t i) ((spo L b).take j))),0⟩) h') ?_ ?_ ?_
      ·refine ⟨by (simp (disch:=first|exact dq|fail) only [go_sem,↓reduceIte,Int.natCast_zero];first|done|rfl),?_⟩
       rw [show insN (spoS L t i) ((spo L b).take 0)=spoS L t i from rfl,set_id (xH1.get gm)]
       exact .refl
      ·rintro j fr2 H2 hj0 hj hA2 ⟨r54,xH2⟩
       have u1:=hA2 1 rfl
       have u2:=hA2 2 rfl
       have u4:=hA2 4 rfl
       have u5:=hA2 5 rfl
       have u7:=hA2 7 rfl
       have u24:=hA2 24 rfl
       have u25:=hA2 25 rfl
       have u26:=hA2 26 rfl
       have u52:=hA2 52 rfl
       have u53:=hA2 53 rfl
       try simp (disch:=first|exact dq|fail) only [go_sem,↓reduceIte,p1,p2,p7,p24,p25] at u1 u2 u4 u5 u7 u24 u25 u26 u52 u53
       have hlt2:((j:Int)<((spo L b).length:Int))=True:=eq_true (by omega)
       have hsj:=getD_some (d:=((0,0):Int × Int)) hj
       have hm1:=lt_of_get (xH1.get gm)
       have oR2:=((o1.set (k:=⟨.map (mapT (insN (spoS L t i) ((spo L b).take j))),0⟩) (i:=h.length+1) (by simp;omega)).ext xH2).rows (by omega)
       obtain ⟨had3,hld3⟩:=rows_get (P:=prog) oR2 Fc.el63 Fc.ar63 Fc.ty70 hsj
       simp only [encT] at had3 hld3
       have hbH:base≤H2.length:=by have:=xH2.len;have:=xH1.len;simp at *;omega
       have gm2:∀ {A:Heap},(H2++A)[h.length+1]?=some ⟨.map (mapT (insN (spoS L t i) ((spo L b).take j))),0⟩:=fun {A}=>get_app (xH2.get (by rw [List.getElem?_set_self hm1]))
       have hup:∀ {A:Heap},mapUpdateA prog base (H2++A) 304 (.map (some (h.length+1))) (.agg [.int .i64 ((spo L b).getD j (0,0)).1,.int .i64 ((spo L b).getD j (0,0)).2]) (.bool true)=some ((H2++A).set (h.length+1) ⟨.map (mapT (insS (insN (spoS L t i) ((spo L b).take j)) ((spo L b).getD j (0,0)))),0⟩):=fun {A}=>upd_T (by omega) gm2
       have hsp:=@Nat.succ_ne_zero;repeat' (first|simp (disch:=first|exact dq|fail) only [go_sem,↓reduceIte,hsp,r54,u1,u2,u4,u5,u7,u24,u25,u26,u52,u53,hlt2,had3,hld3,hup]|refine WP_drw ?_|refine cnd_intro (fun hsp=>?_) fun hsp=>?_)
       refine ⟨agq,by omega,?_⟩
       rw [insN_succ hj]
       have e:=(xH2.app (t:=[⟨.cells [.int .i64 ((spo L b).getD j (0,0)).1,.int .i64 ((spo L b).getD j (0,0)).2] 70 false false,0⟩])).set2 (i:=h.length+1) (k:=⟨.map (mapT (insS (insN (spoS L t i) ((spo L b).take j)) ((spo L b).getD j (0,0)))),0⟩) (by simp;omega)
       rw [List.set_set] at e
       exact e
      ·rintro fr2 H2 hA2 ⟨r54,xH2⟩
       have u1:=hA2 1 rfl
       have u2:=hA2 2 rfl
       have u4:=hA2 4 rfl
       have u5:=hA2 5 rfl
       have u7:=hA2 7 rfl
       have u24:=hA2 24 rfl
       have u25:=hA2 25 rfl
       have u26:=hA2 26 rfl
       have u52:=hA2 52 rfl
       have u53:=hA2 53 rfl
       try simp (disch:=first|exact dq|fail) only [go_sem,↓reduceIte,p1,p2,p7,p24,p25] at u1 u2 u4 u5 u7 u24 u25 u26 u52 u53
       have hlt2:(((spo L b).length:Int)<((spo L b).length:Int))=False:=eq_false (by omega)
       have u26:=hA2 26 rfl;simp (disch:=first|exact dq|fail) only [go_sem,↓reduceIte,r26] at u26
       have hsp:=@Nat.succ_ne_zero;repeat' (first|simp (disch:=first|exact dq|fail) only [go_sem,↓reduceIte,hsp,r54,u26,u1,u2,u4,u5,u7,u24,u25,u26,u52,u53,hlt2]|refine WP_drw ?_|refine cnd_intro (fun hsp=>?_) fun hsp=>?_)
       refine ⟨agq,by omega,?_,fun j hj=>?_⟩
       ·rw [List.take_length] at xH2
        have e:spoS L t (i+1)=insN (spoS L t i) (spo L b):=by simp only [spoS,← eb]
        rw [e]
        refine Ext.trans ?_ xH2
        have e2:=((xH.trans xH1).set2 (i:=h.length+1) (k:=⟨.map (mapT (insN (spoS L t i) (spo L b))),0⟩) (by simp))
        rwa [set_eq (by simp)] at e2
       ·by_cases e:j=i
        ·rw [e];exact ea
        ·exact her j (by omega)
    ·have t3:((i:Int) > 0)=False:=eq_false (by omega)
     have ea:errAt L t i=0:=by unfold errAt;rw [← eb,if_neg (by simp [c2]),if_neg (fun q=>c3 q.1)]
     have hsp:=@Nat.succ_ne_zero;repeat' (first|simp (disch:=first|exact dq|fail) only [go_sem,↓reduceIte,hsp,r26,p1,p2,p7,p24,p25,hlt,had,hld,g0,hk,t3,eq_self,e1,hls]|refine WP_drw ?_|refine cnd_intro (fun hsp=>?_) fun hsp=>?_)
     refine WP_count [(12,12),(54,60)] 0 (spo L b).length (Nat.zero_le _) (fun H0 j fr h'=>fr 54=.int .i64 (j:Int)∧Ext (H0.set (h.length+1) ⟨.map (mapT (insN (spoS L t i) ((spo L b).take j))),0⟩) h') ?_ ?_ ?_
     ·refine ⟨by (simp (disch:=first|exact dq|fail) only [go_sem,↓reduceIte,Int.natCast_zero];first|done|rfl),?_⟩
      rw [show insN (spoS L t i) ((spo L b).take 0)=spoS L t i from rfl,set_id (xH1.get gm)]
      exact .refl
     ·rintro j fr2 H2 hj0 hj hA2 ⟨r54,xH2⟩
      have u1:=hA2 1 rfl
      have u2:=hA2 2 rfl
      have u4:=hA2 4 rfl
      have u5:=hA2 5 rfl
      have u7:=hA2 7 rfl
      have u24:=hA2 24 rfl
      have u25:=hA2 25 rfl
      have u26:=hA2 26 rfl
      have u52:=hA2 52 rfl
      have u53:=hA2 53 rfl
      try simp (disch:=first|exact dq|fail) only [go_sem,↓reduceIte,p1,p2,p7,p24,p25] at u1 u2 u4 u5 u7 u24 u25 u26 u52 u53
      have hlt2:((j:Int)<((spo L b).length:Int))=True:=eq_true (by omega)
      have hsj:=getD_some (d:=((0,0):Int × Int)) hj
      have hm1:=lt_of_get (xH1.get gm)
      have oR2:=((o1.set (k:=⟨.map (mapT (insN (spoS L t i) ((spo L b).take j))),0⟩) (i:=h.length+1) (by simp;omega)).ext xH2).rows (by omega)
      obtain ⟨had3,hld3⟩:=rows_get (P:=prog) oR2 Fc.el63 Fc.ar63 Fc.ty70 hsj
      simp only [encT] at had3 hld3
      have hbH:base≤H2.length:=by have:=xH2.len;have:=xH1.len;simp at *;omega
      have gm2:∀ {A:Heap},(H2++A)[h.length+1]?=some ⟨.map (mapT (insN (spoS L t i) ((spo L b).take j))),0⟩:=fun {A}=>get_app (xH2.get (by rw [List.getElem?_set_self hm1]))
      have hup:∀ {A:Heap},mapUpdateA prog base (H2++A) 304 (.map (some (h.length+1))) (.agg [.int .i64 ((spo L b).getD j (0,0)).1,.int .i64 ((spo L b).getD j (0,0)).2]) (.bool true)=some ((H2++A).set (h.length+1) ⟨.map (mapT (insS (insN (spoS L t i) ((spo L b).take j)) ((spo L b).getD j (0,0)))),0⟩):=fun {A}=>upd_T (by omega) gm2
      have hsp:=@Nat.succ_ne_zero;repeat' (first|simp (disch:=first|exact dq|fail) only [go_sem,↓reduceIte,hsp,r54,u1,u2,u4,u5,u7,u24,u25,u26,u52,u53,hlt2,had3,hld3,hup]|refine WP_drw ?_|refine cnd_intro (fun hsp=>?_) fun hsp=>?_)
      refine ⟨agq,by omega,?_⟩
      rw [insN_succ hj]
      have e:=(xH2.app (t:=[⟨.cells [.int .i64 ((spo L b).getD j (0,0)).1,.int .i64 ((spo L b).getD j (0,0)).2] 70 false false,0⟩])).set2 (i:=h.length+1) (k:=⟨.map (mapT (insS (insN (spoS L t i) ((spo L b).take j)) ((spo L b).getD j (0,0)))),0⟩) (by simp;omega)
      rw [List.set_set] at e
      exact e
     ·rintro fr2 H2 hA2 ⟨r54,xH2⟩
      have u1:=hA2 1 rfl
      have u2:=hA2 2 rfl
      have u4:=hA2 4 rfl
      have u5:=hA2 5 rfl
      have u7:=hA2 7 rfl
      have u24:=hA2 24 rfl
      have u25:=hA2 25 rfl
      have u26:=hA2 26 rfl
      have u52:=hA2 52 rfl
      have u53:=hA2 53 rfl
      try simp (disch:=first|exact dq|fail) only [go_sem,↓reduceIte,p1,p2,p7,p24,p25] at u1 u2 u4 u5 u7 u24 u25 u26 u52 u53
      have hlt2:(((spo L b).length:Int)<((spo L b).length:Int))=False:=eq_false (by omega)
      have u26:=hA2 26 rfl;simp (disch:=first|exact dq|fail) only [go_sem,↓reduceIte,r26] at u26
      have hsp:=@Nat.succ_ne_zero;repeat' (first|simp (disch:=first|exact dq|fail) only [go_sem,↓reduceIte,hsp,r54,u26,u1,u2,u4,u5,u7,u24,u25,u26,u52,u53,hlt2]|refine WP_drw ?_|refine cnd_intro (fun hsp=>?_) fun hsp=>?_)
      refine ⟨agq,by omega,?_,fun j hj=>?_⟩
      ·rw [List.take_length] at xH2
       have e:spoS L t (i+1)=insN (spoS L t i) (spo L b):=by simp only [spoS,← eb]
       rw [e]
       refine Ext.trans ?_ xH2
       have e2:=((xH.trans xH1).set2 (i:=h.length+1) (k:=⟨.map (mapT (insN (spoS L t i) (spo L b))),0⟩) (by simp))
       rwa [set_eq (by simp)] at e2
      ·by_cases e:j=i
       ·rw [e];exact ea
       ·exact her j (by omega)
   ·have t2:(brkM L b=0)=False:=eq_false c2
    have ea:errAt L t i=brkM L b:=by unfold errAt;rw [← eb,if_pos c2]
    have r:lftM L t=([],brkM L b):=by
     have e:truM L t=brkM L b:=by unfold truM;rw [firstE_at (by rw [ea];exact c2) her hi,ea]
     unfold lftM
     rw [if_neg (by simp [c1]),if_pos (by rw [e];exact c2),e]
    rw [r]
    simp only [encB] at hk had hld
    have hsp:=@Nat.succ_ne_zero;repeat' (first|simp (disch:=first|exact dq|fail) only [go_sem,↓reduceIte,hsp,r26,p1,p2,p7,p24,p25,hlt,had,hld,g0,hk,t2]|refine WP_drw ?_|refine cnd_intro (fun hsp=>?_) fun hsp=>?_)
    exact ⟨.app xh,_,rfl,Own.nil⟩
  ·rintro fr H hA ⟨r26,xH,her⟩
   have p1:=hA 1 rfl
   have p2:=hA 2 rfl
   have p7:=hA 7 rfl
   have p24:=hA 24 rfl
   have p25:=hA 25 rfl
   try simp (disch:=first|exact dq|fail) only [go_sem,↓reduceIte] at p1 p2 p7 p24 p25
   have hlt:((t.length:Int)<(t.length:Int))=False:=eq_false (by omega)
   have xh:Ext h H:=Ext.trans (.app (.app .refl)) xH
   have hHl:=xH.len
   simp only [List.length_append,List.length_cons,List.length_nil] at hHl
   have g0:H[h.length]?=some ⟨.cells [.int .i64 L.R,.int .i64 L.T,pv,sv] 62 false false,0⟩:=xH.get (by simp)
   have e:truM L t=0:=firstE_no her
   have r:lftM L t=(lftN (spoS L t t.length) L.ss L.ss.length,0):=by unfold lftM;rw [if_neg (by simp [c1]),if_neg (by simp [e])]
   rw [r]
   obtain ⟨S,eS⟩:∃ S,S=spoS L t t.length:=⟨_,rfl⟩
   rw [← eS] at xH ⊢
   have hS2:=hS.ext xh
   have hlS:=hS2.len (P:=prog) Fc.el60
   have hsp:=@Nat.succ_ne_zero;repeat' (first|simp (disch:=first|exact dq|fail) only [go_sem,↓reduceIte,hsp,r26,p1,p2,p7,p24,p25,hlt,g0,hlS]|refine WP_drw ?_|refine cnd_intro (fun hsp=>?_) fun hsp=>?_)
   refine WP_count [(13,17),(65,97)] 0 L.ss.length (Nat.zero_le _) (fun H0 i fr h'=>fr 65=.int .i64 (i:Int)∧Ext H0 h'∧∃ v,fr 13=v∧Own encI 3 H0.length h' v (lftN S L.ss i)) ?_ ?_ ?_
   ·exact ⟨by (simp (disch:=first|exact dq|fail) only [go_sem,↓reduceIte,Int.natCast_zero];first|done|rfl),.refl,.slice none 0 0,by simp (disch:=first|exact dq|fail) only [go_sem,↓reduceIte],Own.nil⟩
   ·rintro i fr2 H2 hi0 hi hA2 ⟨r65,xH2,v,r13,hO⟩
    have q4:=hA2 4 rfl
    have q5:=hA2 5 rfl
    have q7:=hA2 7 rfl
    have q63:=hA2 63 rfl
    have q64:=hA2 64 rfl
    try simp (disch:=first|exact dq|fail) only [go_sem,↓reduceIte,p7] at q4 q5 q7 q63 q64
    have hlt2:((i:Int)<(L.ss.length:Int))=True:=eq_true (by omega)
    have hsi:=getD_some (d:=sgt0) hi
    obtain ⟨s,es⟩:∃ s,s=L.ss.getD i sgt0:=⟨_,rfl⟩
    rw [← es] at hsi
    have hsb:=k6 s (List.mem_of_getElem? hsi)
    obtain ⟨had3,hld3⟩:=rows_get (P:=prog) (hS2.ext xH2) Fc.el60 Fc.ar60 Fc.ty113 hsi
    simp only [encS] at had3 hld3
    have hH2l:=xH2.len
    have gm3:∀ {A:Heap},(H2++A)[h.length+1]?=some ⟨.map (mapT S),0⟩:=fun {A}=>get_app (xH2.get (xH.get (by simp)))
    have gs:∀ {A:Heap},(H2++[⟨.cells [.int .i64 s.rib,.int .i64 s.lo,.int .i64 s.hi,.bool s.bad] 113 false false,0⟩]++A)[H2.length]?=some ⟨.cells [.int .i64 s.rib,.int .i64 s.lo,.int .i64 s.hi,.bool s.bad] 113 false false,0⟩:=fun {A}=>by simp
    have hsp:=@Nat.succ_ne_zero;repeat' (first|simp (disch:=first|exact dq|fail) only [go_sem,↓reduceIte,hsp,r65,r13,q4,q5,q7,q63,q64,hlt2,had3,hld3]|refine WP_drw ?_|refine cnd_intro (fun hsp=>?_) fun hsp=>?_)
    refine WP_count [(16,17),(73,88)] 0 (s.hi+1-s.lo).toNat (Nat.zero_le _) (fun H0 n fr h'=>fr 17=.int .i64 (s.lo+(n:Int))∧fr 16=.bool (badN S s n)∧h'=H0) ?_ ?_ ?_
    ·exact ⟨by simp (disch:=first|exact dq|fail) only [go_sem,↓reduceIte,Int.natCast_zero,Int.add_zero],by (simp (disch:=first|exact dq|fail) only [go_sem,↓reduceIte,Int.natCast_zero];first|done|rfl),rfl⟩
    ·rintro n fr3 H3 hn0 hn hA3 ⟨r17,r16,rfl⟩
     have w4:=hA3 4 rfl
     have w5:=hA3 5 rfl
     have w7:=hA3 7 rfl
     have w13:=hA3 13 rfl
     have w14:=hA3 14 rfl
     have w15:=hA3 15 rfl
     have w63:=hA3 63 rfl
     have w64:=hA3 64 rfl
     have w65:=hA3 65 rfl
     try simp (disch:=first|exact dq|fail) only [go_sem,↓reduceIte,q4,q5,q7,q63,q64] at w4 w5 w7 w13 w14 w15 w63 w64 w65
     have hlt3:(s.lo+(n:Int)≤s.hi)=True:=eq_true (by omega)
     have hlk:=look_T (a:=s.rib) (b:=s.lo+(n:Int)) (gm3 (A:=[⟨.cells [.int .i64 s.rib,.int .i64 s.lo,.int .i64 s.hi,.bool s.bad] 113 false false,0⟩]))
     cases hbn:badN S s n with
     | true =>
      rw [hbn] at r16
      have hsp:=@Nat.succ_ne_zero;repeat' (first|simp (disch:=first|exact dq|fail) only [go_sem,↓reduceIte,hsp,r17,r16,w4,w5,w7,w13,w14,w15,w63,w64,w65,hlt3]|refine WP_drw ?_|refine cnd_intro (fun hsp=>?_) fun hsp=>?_)
      refine ⟨agq,by omega,?_⟩
      simp only [badN,hbn,Bool.true_or]
     | false =>
      rw [hbn] at r16
      have hsp:=@Nat.succ_ne_zero;repeat' (first|simp (disch:=first|exact dq|fail) only [go_sem,↓reduceIte,hsp,r17,r16,w4,w5,w7,w13,w14,w15,w63,w64,w65,hlt3,hlk]|refine WP_drw ?_|refine cnd_intro (fun hsp=>?_) fun hsp=>?_)
      refine ⟨agq,by omega,?_⟩
      simp only [badN,hbn,Bool.false_or]
    ·rintro fr3 H3 hA3 ⟨r17,r16,rfl⟩
     have w4:=hA3 4 rfl
     have w5:=hA3 5 rfl
     have w7:=hA3 7 rfl
     have w13:=hA3 13 rfl
     have w14:=hA3 14 rfl
     have w15:=hA3 15 rfl
     have w63:=hA3 63 rfl
     have w64:=hA3 64 rfl
     have w65:=hA3 65 rfl
     try simp (disch:=first|exact dq|fail) only [go_sem,↓reduceIte,q4,q5,q7,q63,q64] at w4 w5 w7 w13 w14 w15 w63 w64 w65
     have w65:=hA3 65 rfl;simp (disch:=first|exact dq|fail) only [go_sem,↓reduceIte,r65] at w65
     have w13:=hA3 13 rfl;simp (disch:=first|exact dq|fail) only [go_sem,↓reduceIte,r13] at w13
     have hlt3:(s.lo+(((s.hi+1-s.lo).toNat:Nat):Int)≤s.hi)=False:=eq_false (by omega)
     have eb:badN S s (s.hi+1-s.lo).toNat=badA S s:=rfl
     rw [eb] at r16
     by_cases hd:badA S s=s.bad
     ·have t5:(badA S s=s.bad)=True:=eq_true hd
      have hsp:=@Nat.succ_ne_zero;repeat' (first|simp (disch:=first|exact dq|fail) only [go_sem,↓reduceIte,hsp,r17,r16,w4,w5,w7,w13,w14,w15,w63,w64,w65,hlt3,neB,t5]|refine WP_drw ?_|refine cnd_intro (fun hsp=>?_) fun hsp=>?_)
      refine ⟨agq,by omega,.app xH2,v,rfl,?_⟩
      rw [lftN_succ,← es,hd]
      simpa using hO.app
     ·have t5:(badA S s=s.bad)=False:=eq_false hd
      have hul:=lftN_len (S:=S) (ss:=L.ss) (n:=i)
      obtain ⟨v',h',ea,hO',hle,hE,h1'⟩:=(hO.app (T:=[⟨.cells [.int .i64 s.rib,.int .i64 s.lo,.int .i64 s.hi,.bool s.bad] 113 false false,0⟩])).append1 (y:=(i:Int)) (base:=base) (t:=35) rfl rfl Fc.el35 encI_sc (by omega) (by simp;omega) (by omega)
      have hsp:=@Nat.succ_ne_zero;repeat' (first|simp (disch:=first|exact dq|fail) only [go_sem,↓reduceIte,hsp,r17,r16,w4,w5,w7,w13,w14,w15,w63,w64,w65,hlt3,neB,t5,ea]|refine WP_drw ?_|refine cnd_intro (fun hsp=>?_) fun hsp=>?_)
      refine ⟨agq,by omega,hE _ (Nat.le_refl _) (.app xH2),v',rfl,?_⟩
      rw [lftN_succ,← es,if_pos (by simpa using hd)]
      exact hO'
   ·rintro fr2 H2 hA2 ⟨r65,xH2,v,r13,hO⟩
    have q4:=hA2 4 rfl
    have q5:=hA2 5 rfl
    have q7:=hA2 7 rfl
    have q63:=hA2 63 rfl
    have q64:=hA2 64 rfl
    try simp (disch:=first|exact dq|fail) only [go_sem,↓reduceIte,p7] at q4 q5 q7 q63 q64
    have hlt2:((L.ss.length:Int)<(L.ss.length:Int))=False:=eq_false (by omega)
    have hsp:=@Nat.succ_ne_zero;repeat' (first|simp (disch:=first|exact dq|fail) only [go_sem,↓reduceIte,hsp,r65,r13,q4,q5,q7,q63,q64,hlt2]|refine WP_drw ?_|refine cnd_intro (fun hsp=>?_) fun hsp=>?_)
    exact ⟨xh.trans xH2,v,rfl,hO.low (by omega)⟩
 ·have t1:(chkM L=0)=False:=eq_false c1
  have r:lftM L t=([],chkM L):=by unfold lftM;rw [if_pos c1]
  rw [r]
  refine ret_raw func123 rfl (by kernel_rfl) ?_
  have hsp:=@Nat.succ_ne_zero;repeat' (first|simp (disch:=first|exact dq|fail) only [go_sem,↓reduceIte,hsp,hc,t1]|refine WP_drw ?_|refine cnd_intro (fun hsp=>?_) fun hsp=>?_)
  exact ⟨.app .refl,_,rfl,Own.nil⟩
def xplM (L:Lom) (t:List Brk):Bool:=decide ((lftM L t).2=0∧(lftM L t).1=[])
theorem own_len {α:Type} {E:Enc α} {e t:TypeId} {b:Nat} {H:Heap} {v:AVal} {l:List α} {zs:List AVal} (x:Own E e b H v l) (ht:elS prog t=some (e,E.z,zs)) (hl:l.length<2 ^ 60):lenOpA prog H t v=some (.int .i64 (l.length:Int)):=(x.rows hl).len ht
theorem lftM_len {L:Lom} {t:List Brk}:(lftM L t).1.length≤L.ss.length:=by
 unfold lftM
 split
 ·simp
 ·split
  ·simp
  ·exact lftN_len
theorem run_explains {base:Nat} {h:Heap} {v tv:AVal} {L:Lom} {t:List Brk} (hL:LomAt h v L) (hok:LomOk L) (hT:Rows encB h tv t) (htl:t.length≤1000) :
  callL prog raw base (.fn 42 [] []) [v,tv] h=some (.tuple [.bool (xplM L t),.int .i64 (lftM L t).2],h):=by
 obtain ⟨pv,sv,rfl,hP,hS⟩:=id hL
 have ho1:=hP.one
 have ho2:=hS.one
 obtain ⟨w1,H1,e1,x1,y,rfl,oy⟩:=run_left (base:=h.length) (h:=h++[⟨.cells [.int .i64 L.R,.int .i64 L.T,pv,sv] 62 false false,0⟩]) (by simp) (hL.ext (.app .refl)) hok hT.app htl
 have hll:=@lftM_len L t
 have hsl:=hok.2.2.1
 have hy:=own_len oy Fc.el35 (by omega)
 have xh:=(Ext.app (t:=[⟨.cells [.int .i64 L.R,.int .i64 L.T,pv,sv] 62 false false,0⟩]) (Ext.refl (h:=h))).trans x1
 refine callL_run func42 rfl rfl ?_
 by_cases c1:(lftM L t).2=0
 ·have t1:((lftM L t).2=0)=True:=eq_true c1
  have hsp:=@Nat.succ_ne_zero;repeat' (first|simp (disch:=first|exact dq|fail) only [go_sem,↓reduceIte,hsp,e1,t1,hy]|refine WP_drw ?_|refine cnd_intro (fun hsp=>?_) fun hsp=>?_)
  refine fBI ?_ (by rw [c1]) xh
  unfold xplM
  refine decide_eq_decide.2 ?_
  constructor
  ·intro q;exact ⟨c1,List.eq_nil_of_length_eq_zero (by omega)⟩
  ·rintro ⟨_,q⟩;rw [q];rfl
 ·have t1:((lftM L t).2=0)=False:=eq_false c1
  have hsp:=@Nat.succ_ne_zero;repeat' (first|simp (disch:=first|exact dq|fail) only [go_sem,↓reduceIte,hsp,e1,t1,hy]|refine WP_drw ?_|refine cnd_intro (fun hsp=>?_) fun hsp=>?_)
  refine fBI ?_ rfl xh
  unfold xplM
  exact (decide_eq_false fun q=>c1 q.1).symm
end F4
end Go.AM
namespace Go.AM
namespace F4
open Go.Proofs.Tryz
def runF (p:Nat→Bool):Nat→Nat→Nat
 | _,0=>0
 | a,n+1=>if p a=true then runF p (a+1) n+1 else 0
theorem runF_le {p:Nat→Bool}:∀ {n a:Nat},runF p a n≤n
 | 0,_=>Nat.le_refl _
 | n+1,a=>by
  have:=runF_le (p:=p) (n:=n) (a:=a+1)
  simp only [runF];split<;>omega
theorem runF_lt {p:Nat→Bool}:∀ {n a d:Nat},d<runF p a n→p (a+d)=true
 | 0,_,d,h=>by simp [runF] at h
 | n+1,a,d,h=>by
  simp only [runF] at h
  split at h
  ·rename_i hp
   cases d with
   | zero=>exact hp
   | succ d=>have:=runF_lt (p:=p) (n:=n) (a:=a+1) (d:=d) (by omega);rwa [show a+1+d=a+(d+1) by omega] at this
  ·omega
theorem runF_end {p:Nat→Bool}:∀ {n a:Nat},runF p a n=n ∨ (runF p a n<n∧p (a+runF p a n)=false)
 | 0,_=>.inl rfl
 | n+1,a=>by
  simp only [runF]
  split
  ·rcases runF_end (p:=p) (n:=n) (a:=a+1) with h|⟨h1,h2⟩
   ·exact .inl (by rw [h])
   ·exact .inr ⟨by omega,by rwa [show a+(runF p (a+1) n+1)=a+1+runF p (a+1) n by omega]⟩
  ·rename_i hp
   exact .inr ⟨by omega,by simpa using hp⟩
def brkF (k:Nat) (m:List Bool) (T from':Nat):List Brk:=(List.range (runF (fun t=>!m.getD t false) from' (T-from'))).map fun (d:Nat)=>((k:Int),(from':Int),((from'+d:Nat):Int))
def brkN (k:Nat) (m:List Bool) (T:Nat):Nat→List Brk
 | 0=>[]
 | n+1=>brkN k m T n++brkF k m T n
def brkL (k:Nat) (m:List Bool) (T:Nat):List Brk:=brkN k m T T
theorem brkN_pre {k T:Nat} {m:List Bool} {n:Nat}:∀ j,∃ s,brkN k m T (n+j)=brkN k m T n++s
 | 0=>⟨[],by simp⟩
 | j+1=>by
  obtain ⟨s,e⟩:=brkN_pre (k:=k) (T:=T) (m:=m) (n:=n) j
  exact ⟨s++brkF k m T (n+j),by rw [show n+(j+1)=(n+j)+1 by omega,brkN,e,List.append_assoc]⟩
theorem brkL_get {k T n d:Nat} {m:List Bool} (hn:n<T) (hd:d<runF (fun t=>!m.getD t false) n (T-n)):(brkL k m T)[(brkN k m T n).length+d]?=some ((k:Int),(n:Int),((n+d:Nat):Int)):=by
 obtain ⟨s,e⟩:=brkN_pre (k:=k) (T:=T) (m:=m) (n:=n+1) (T-(n+1))
 rw [show n+1+(T-(n+1))=T by omega] at e
 unfold brkL
 rw [e,brkN,List.append_assoc,List.getElem?_append_right (by omega),Nat.add_sub_cancel_left,List.getElem?_append_left (by simpa [brkF] using hd)]
 simp only [brkF,List.getElem?_map]
 rw [List.getElem?_range hd]
 rfl
theorem brkN_step {k T n:Nat} {m:List Bool}:(brkN k m T (n+1)).length=(brkN k m T n).length+runF (fun t=>!m.getD t false) n (T-n):=by simp [brkN,brkF]
theorem brkL_mem {k T:Nat} {m:List Bool} {b:Brk}:b ∈ brkL k m T ↔ ∃ n d:Nat,n<T∧d<runF (fun t=>!m.getD t false) n (T-n)∧b=((k:Int),(n:Int),((n+d:Nat):Int)):=by
 have g:∀ N,b ∈ brkN k m T N ↔ ∃ n d:Nat,n<N∧d<runF (fun t=>!m.getD t false) n (T-n)∧b=((k:Int),(n:Int),((n+d:Nat):Int)):=by
  intro N
  induction N with
  | zero=>simp [brkN]
  | succ N ih =>
   rw [brkN,List.mem_append,ih]
   constructor
   ·rintro (⟨n,d,h1,h2⟩|h)
    ·exact ⟨n,d,by omega,h2⟩
    ·simp only [brkF,List.mem_map,List.mem_range] at h
     obtain ⟨d,h1,rfl⟩:=h
     exact ⟨N,d,by omega,h1,rfl⟩
   ·rintro ⟨n,d,h1,h2,rfl⟩
    by_cases e:n=N
    ·subst e
     exact .inr (by simp only [brkF,List.mem_map,List.mem_range];exact ⟨d,h2,rfl⟩)
    ·exact .inl ⟨n,d,by omega,h2,rfl⟩
 exact g T
def hit (L:Lom) (b:Brk) (i:Int):Bool:=(spo L b).any (hasB (L.ss.getD i.toNat sgt0))
def bitN (L:Lom) (bad:List Int) (b:Brk):Nat→Nat
 | 0=>0
 | n+1=>if hit L b (bad.getD n 0)=true then bitN L bad b n ||| 2 ^ n else bitN L bad b n
theorem bitN_lt {L:Lom} {bad:List Int} {b:Brk}:∀ n,bitN L bad b n<2 ^ n
 | 0=>by simp [bitN]
 | n+1=>by
  have:=bitN_lt (L:=L) (bad:=bad) (b:=b) n
  have h2:2 ^ (n+1)=2 * 2 ^ n:=by rw [Nat.pow_succ];omega
  simp only [bitN]
  split
  ·exact Nat.or_lt_two_pow (by omega) (by omega)
  ·omega
def bits (L:Lom) (bad:List Int) (b:Brk):Nat:=bitN L bad b bad.length
def made (L:Lom) (bad:List Int) (ms:List (List Bool)) (k:Nat):List (Brk × Nat):=(brkL k (ms.getD k []) L.T.toNat).map fun b=>(b,bits L bad b)
def mdC (b:Brk) (x:Nat):List AVal:=[.int .i64 b.1,.int .i64 b.2.1,.int .i64 b.2.2,.int .i64 (x:Int)]
theorem orN {t:TypeId} {a b:Nat} (ha:a<2 ^ 62) (hb:b<2 ^ 62):binA prog .or t (.int .i64 (a:Int)) (.int .i64 (b:Int))=some (.int .i64 ((a ||| b:Nat):Int)):=by
 have hx:a ||| b<2 ^ 62:=Nat.or_lt_two_pow ha hb
 have e:BitVec.ofInt 64 (a:Int) ||| BitVec.ofInt 64 (b:Int)=BitVec.ofNat 64 (a ||| b):=by
  apply BitVec.eq_of_toNat_eq
  simp only [BitVec.toNat_or,BitVec.toNat_ofInt,BitVec.toNat_ofNat]
  have h3:(a:Int) % ((2 ^ 64:Nat):Int)=a:=Int.emod_eq_of_lt (by omega) (by omega)
  have h4:(b:Int) % ((2 ^ 64:Nat):Int)=b:=Int.emod_eq_of_lt (by omega) (by omega)
  rw [h3,h4,Nat.mod_eq_of_lt (by omega)]
  rfl
 show some (AVal.int .i64 (IntKind.i64.wrap ((BitVec.ofInt 64 (a:Int) ||| BitVec.ofInt 64 (b:Int)).toNat:Int)))=_
 rw [e,BitVec.toNat_ofNat,Nat.mod_eq_of_lt (by omega),wrap64 (by omega) (by omega)]
theorem andN {t:TypeId} {a b:Nat} (ha:a<2 ^ 62) (hb:b<2 ^ 62):binA prog .and t (.int .i64 (a:Int)) (.int .i64 (b:Int))=some (.int .i64 ((a &&& b:Nat):Int)):=by
 have hx:a &&& b<2 ^ 62:=Nat.and_lt_two_pow _ hb
 have e:BitVec.ofInt 64 (a:Int) &&& BitVec.ofInt 64 (b:Int)=BitVec.ofNat 64 (a &&& b):=by
  apply BitVec.eq_of_toNat_eq
  simp only [BitVec.toNat_and,BitVec.toNat_ofInt,BitVec.toNat_ofNat]
  have h3:(a:Int) % ((2 ^ 64:Nat):Int)=a:=Int.emod_eq_of_lt (by omega) (by omega)
  have h4:(b:Int) % ((2 ^ 64:Nat):Int)=b:=Int.emod_eq_of_lt (by omega) (by omega)
  rw [h3,h4,Nat.mod_eq_of_lt (by omega)]
  rfl
 show some (AVal.int .i64 (IntKind.i64.wrap ((BitVec.ofInt 64 (a:Int) &&& BitVec.ofInt 64 (b:Int)).toNat:Int)))=_
 rw [e,BitVec.toNat_ofNat,Nat.mod_eq_of_lt (by omega),wrap64 (by omega) (by omega)]
theorem shlN {t:TypeId} {k:Nat} (hk:k≤60):binA prog .shl t (.int .i64 1) (.int .i64 (k:Int))=some (.int .i64 ((2 ^ k:Nat):Int)):=by
 rw [bin_shl (by omega)]
 have e:min (k:Int).toNat IntKind.i64.bits=k:=by simp [IntKind.bits];omega
 have h2:2 ^ k≤2 ^ 60:=Nat.pow_le_pow_right (by decide) hk
 have e2:(1:Int) * 2 ^ k=((2 ^ k:Nat):Int):=by simp
 rw [e,e2]
 generalize 2 ^ k=x at h2
 rw [wrap64 (by omega) (by omega)]
def freeB (m:List Bool):Bool:=(List.range 12).all fun i=>!m.getD i false
theorem eqFree {m:List Bool} (hm:m.length=12):binA prog .eql 244 (.agg (m.map .bool)) (.agg [.bool false,.bool false,.bool false,.bool false,.bool false,.bool false,.bool false,.bool false,.bool false,.bool false,.bool false,.bool false])=some (.bool (freeB m)):=by
 have h1:prog.eqGuardType prog.depth 244=false:=by kernel_rfl
 have h2:prog.underlying 244=some (.array 12 4):=by kernel_rfl
 have h3:prog.underlying 4=some .bool:=by kernel_rfl
 have key:∀ l:List Nat,(∀ i ∈ l,i<12)→l.foldr (fun i acc=>match partQ (false,1) (m.map .bool) (i * 1),partQ (false,1) (List.replicate 12 (.bool false)) (i * 1) with
   | some a,some b=>match eqT prog 5 4 a b with|some true=>acc|r=>r
   | _,_=>none) (some true)=some (l.all fun i=>!m.getD i false):=by
  intro l
  induction l with
  | nil=>intro _;rfl
  | cons i l ih =>
   intro hl
   have hi:i<12:=hl i (by simp)
   have e1:partQ (false,1) (m.map AVal.bool) (i * 1)=some (.bool (m.getD i false)):=by
    simp only [partQ,Bool.false_eq_true,if_false,Nat.mul_one,List.getElem?_map,List.getD_eq_getElem?_getD,List.getElem?_eq_getElem (show i<m.length by omega)]
    rfl
   have e2:partQ (false,1) (List.replicate 12 (AVal.bool false)) (i * 1)=some (.bool false):=by
    simp only [partQ,Bool.false_eq_true,if_false,Nat.mul_one,List.getElem?_replicate,hi,if_true]
   rw [List.foldr_cons,ih (fun j hj=>hl j (List.mem_cons_of_mem _ hj)),e1,e2]
   rw [List.all_cons]
   cases hb:m.getD i false with
   | true =>
    have e3:eqT prog 5 4 (.bool true) (.bool false)=some false:=by simp [eqT,h3]
    simp only [e3]
    rfl
   | false =>
    have e3:eqT prog 5 4 (.bool false) (.bool false)=some true:=by simp [eqT,h3]
    simp only [e3]
    rfl
 simp only [binA,isShift,h1,Bool.false_eq_true,if_false,eqDepth]
 have:=key (List.range 12) (fun i hi=>List.mem_range.1 hi)
 have hq:∀ (d:Nat) (xs ys:List AVal),eqT prog (d+1) 244 (.agg xs) (.agg ys)=(List.range 12).foldr (fun i acc=>match partQ (false,1) xs (i * 1),partQ (false,1) ys (i * 1) with
   | some a,some b=>match eqT prog d 4 a b with|some true=>acc|r=>r
   | _,_=>none) (some true):=fun d xs ys=>by
  simp only [eqT,h2,Fc.ty4]
  rfl
 rw [hq 5]
 rw [show ([.bool false,.bool false,.bool false,.bool false,.bool false,.bool false,.bool false,.bool false,.bool false,.bool false,.bool false,.bool false]:List AVal)=List.replicate 12 (.bool false) from rfl]
 rw [this]
 rfl
theorem freeB_all {m:List Bool} (h:freeB m=true) {i:Nat} (hi:i<12):m.getD i false=false:=by
 have:=List.all_eq_true.1 h i (List.mem_range.2 hi)
 simpa using this
end F4
end Go.AM
