/-
  Contracts: the error of a chain.
-/
import Derived.Test.YteanoaejoddnbaaGreatU12
import Derived.Test.YteanoaejoddnbaaGreatU9
set_option linter.unusedSimpArgs false
set_option linter.unusedVariables false
namespace Go.AM
open Go.Proofs.Tryz
attribute [-go_sem] put_ne put_same
attribute [local go_sem ↓] put_if
abbrev lacB (T:Int) (cv rv:AVal):ABlk:=⟨.cells [.int .i64 T,cv,rv] 25 false false,0⟩
theorem run_chk1 {base id:Nat} {h:Heap} {T x:Int} {cv rv:AVal} (hT:1≤T∧T≤8) (hg:h[id]?=some (lacB T cv rv)):callL prog raw base (.fn 65 [] [.ptr (some ⟨id,0,0⟩)]) [.int .i64 x] h=some (.bool (setB T x),h):=by
 have hid:=lt_of_get hg
 have sh:=shl_one (w:=T) (by omega) (by omega)
 have hp:=pow_le (w:=T) (by omega) (by omega)
 unfold lacB at hg
 refine callL_run func65 rfl rfl ?_
 have hsp:=@Nat.succ_ne_zero;repeat' (first|simp (disch:=first|exact dq|fail) only [go_sem,↓reduceIte,hsp,hg,sh]|refine WP_drw ?_|refine cnd_intro (fun hsp=>?_) fun hsp=>?_)
 exact fB rfl
abbrev setX (id:Nat):ABlk:=⟨.cells [.fn 65 [] [.ptr (some ⟨id,0,0⟩)]] 103 false false,0⟩
theorem run_chk2 {base id id2:Nat} {h:Heap} {T:Int} {cv rv:AVal} {r:Rw3} (hT:1≤T∧T≤8) (hg:h[id]?=some (lacB T cv rv)) (h2:h[id2]?=some (setX id)) :
  callL prog raw base (.fn 68 [] [.ptr (some ⟨id2,0,0⟩)]) [.agg (encR.cells r)] h=some (.bool (decide (0≤r.1∧r.1≤999) && setB T r.2.1),h):=by
 have hid:=lt_of_get hg
 have hid2:=lt_of_get h2
 have hc:=fun base (a:ABlk)=>run_chk1 (base:=base) (x:=r.2.1) hT (get_app (T:=[a]) hg)
 unfold setX at h2
 simp only [encR]
 refine callL_run func68 rfl rfl ?_
 by_cases c:0≤r.1∧r.1≤999
 ·have t1:decide (0≤r.1∧r.1≤999)=true:=decide_eq_true c
  have hsp:=@Nat.succ_ne_zero;repeat' (first|simp (disch:=first|exact dq|fail) only [go_sem,↓reduceIte,hsp,h2,t1,hc]|refine WP_drw ?_|refine cnd_intro (fun hsp=>?_) fun hsp=>?_)
  exact fB (by rw [Bool.true_and])
 ·have t1:decide (0≤r.1∧r.1≤999)=false:=decide_eq_false c
  have hsp:=@Nat.succ_ne_zero;repeat' (first|simp (disch:=first|exact dq|fail) only [go_sem,↓reduceIte,hsp,h2,t1,hc]|refine WP_drw ?_|refine cnd_intro (fun hsp=>?_) fun hsp=>?_)
  exact fB (by rw [Bool.false_and])
theorem run_chk3 {base id id2:Nat} {h:Heap} {T:Int} {cv rv:AVal} {r:Rw3} (hT:1≤T∧T≤8) (hg:h[id]?=some (lacB T cv rv)) (h2:h[id2]?=some (setX id)) (hm:setB T r.2.1=true) :
  callL prog raw base (.fn 69 [] [.ptr (some ⟨id2,0,0⟩)]) [.agg (encR.cells r)] h=some (.bool (setB T r.2.2 && subB r.2.2 r.2.1),h):=by
 have hid:=lt_of_get hg
 have hid2:=lt_of_get h2
 have hp:=pow_le (w:=T) (by omega) (by omega)
 have hc:=fun base (a:ABlk)=>run_chk1 (base:=base) (x:=r.2.2) hT (get_app (T:=[a]) hg)
 have hm:=of_decide_eq_true hm
 unfold setX at h2
 simp only [encR]
 refine callL_run func69 rfl rfl ?_
 cases c:setB T r.2.2 with
 | true =>
  rw [c] at hc
  have hs:=of_decide_eq_true c
  obtain ⟨a,ea⟩:=Int.eq_ofNat_of_zero_le hs.1
  obtain ⟨b,eb⟩:=Int.eq_ofNat_of_zero_le hm.1
  obtain ⟨x,ex,hx⟩:=andNotN (t:=3) (a:=a) (b:=b) (by omega) (by omega)
  rw [ea] at hc
  rw [ea,eb]
  have hsp:=@Nat.succ_ne_zero;repeat' (first|simp (disch:=first|exact dq|fail) only [go_sem,↓reduceIte,hsp,h2,hc,ex]|refine WP_drw ?_|refine cnd_intro (fun hsp=>?_) fun hsp=>?_)
  refine fB ?_
  unfold subB
  rw [Bool.true_and,Int.toNat_natCast,Int.toNat_natCast]
  by_cases q:x=0
  ·rw [decide_eq_true (hx.1 q),decide_eq_true (by omega)]
  ·rw [decide_eq_false (fun z=>q (hx.2 z)),decide_eq_false (by omega)]
 | false =>
  rw [c] at hc
  have hsp:=@Nat.succ_ne_zero;repeat' (first|simp (disch:=first|exact dq|fail) only [go_sem,↓reduceIte,hsp,h2,hc]|refine WP_drw ?_|refine cnd_intro (fun hsp=>?_) fun hsp=>?_)
  exact fB (by rw [Bool.false_and])
set_option maxHeartbeats 2000000 in
theorem run_Check {base:Nat} {h:Heap} {v:AVal} {L:Lac} (hL:LacAt h v L):callL prog raw base (.fn 15 [] []) [v] h=some (.int .i64 (chkL L),h):=by
 obtain ⟨cv,rv,rfl,hC,hR⟩:=hL
 have o1:=hC.one
 have o2:=hR.one
 obtain ⟨G0,eG0⟩:∃ G0,G0=h++[lacB L.T cv rv]:=⟨_,rfl⟩
 have x0:Ext h G0:=by rw [eG0];exact .app .refl
 have g0:G0[h.length]?=some (lacB L.T cv rv):=by rw [eG0];exact get_eq rfl
 have l0:G0.length=h.length+1:=by rw [eG0];simp
 obtain ⟨G1,eG1⟩:∃ G1,G1=G0++[setX h.length]:=⟨_,rfl⟩
 have x1:Ext G0 G1:=by rw [eG1];exact .app .refl
 have g1:G1[h.length]?=some (lacB L.T cv rv):=x1.get g0
 have g1s:G1[G0.length]?=some (setX h.length):=by rw [eG1];exact get_eq rfl
 have l1:G1.length=h.length+2:=by rw [eG1];simp [l0]
 have xh1:=x0.trans x1
 by_cases c0:1≤L.T∧L.T≤8
 ·have t0:decide (1≤L.T∧L.T≤8)=true:=decide_eq_true c0
  obtain ⟨G2,eG2⟩:∃ G2,G2=G1++[evB (.fn 65 [] [.ptr (some ⟨h.length,0,0⟩)])]:=⟨_,rfl⟩
  have x2:Ext G1 G2:=by rw [eG2];exact .app .refl
  have g2:=x2.get g1
  have g2s:=x2.get g1s
  have l2:G2.length=h.length+3:=by rw [eG2];simp [l1]
  have xh2:=xh1.trans x2
  have hn1:=lenI (hC.ext xh1)
  have hn2:=(hR.ext xh1).len (P:=prog) Fc.el23
  have ev1:=every_I (base:=h.length) (h:=G1) (v:=cv) (g:=.fn 65 [] [.ptr (some ⟨h.length,0,0⟩)]) (l:=L.C) (setB L.T) (by omega) ⟨rfl,rfl,rfl⟩ (hC.ext xh1) (fun x _=>run_chk1 c0 (get_app g1))
  rw [← eG2] at ev1
  have ev2:=every_R (base:=h.length) (h:=G2) (v:=rv) (g:=.fn 68 [] [.ptr (some ⟨G0.length,0,0⟩)]) (fun r=>decide (0≤r.1∧r.1≤999) && setB L.T r.2.1) (hR.ext xh2) ⟨rfl,rfl,rfl⟩ (fun base T x _=>run_chk2 c0 (get_app g2) (get_app g2s))
  have htw:=run_twice (base:=h.length) (hC.ext xh2)
  unfold lacB at eG0 g0 g1 g2
  unfold setX at eG1 g1s g2s
  refine callL_run func15 rfl rfl ?_
  by_cases c1:1≤(L.C.length:Int)∧(L.C.length:Int)≤7
  ·have t1:decide (1≤(L.C.length:Int)∧(L.C.length:Int)≤7)=true:=decide_eq_true c1
   by_cases c2:(L.R.length:Int) > 12
   ·have t2:((L.R.length:Int) > 12)=True:=eq_true c2
    have hsp:=@Nat.succ_ne_zero;repeat' (first|simp (disch:=first|exact dq|fail) only [go_sem,↓reduceIte,hsp,← eG0,g0,t0,← eG1,g1,g1s,hn1,t1,hn2,t2]|refine WP_drw ?_|refine cnd_intro (fun hsp=>?_) fun hsp=>?_)
    refine fI ?_ xh1
    unfold chkL
    rw [if_neg (by simpa using c0),if_pos (.inr c2)]
   ·have t2:((L.R.length:Int) > 12)=False:=eq_false c2
    have u2:¬ (¬ (1≤(L.C.length:Int)∧(L.C.length:Int)≤7) ∨ (L.R.length:Int) > 12):=by omega
    cases c3:L.C.all (setB L.T) with
    | false =>
     rw [c3] at ev1
     have hsp:=@Nat.succ_ne_zero;repeat' (first|simp (disch:=first|exact dq|fail) only [go_sem,↓reduceIte,hsp,← eG0,g0,t0,← eG1,g1,g1s,hn1,t1,hn2,t2,ev1]|refine WP_drw ?_|refine cnd_intro (fun hsp=>?_) fun hsp=>?_)
     refine fI ?_ xh2
     unfold chkL
     rw [if_neg (by simpa using c0),if_neg u2,if_pos (.inl (by rw [c3];simp))]
    | true =>
     rw [c3] at ev1
     cases c4:L.R.all (fun r=>decide (0≤r.1∧r.1≤999) && setB L.T r.2.1) with
     | false =>
      rw [c4] at ev2
      have hsp:=@Nat.succ_ne_zero;repeat' (first|simp (disch:=first|exact dq|fail) only [go_sem,↓reduceIte,hsp,← eG0,g0,t0,← eG1,g1,g1s,hn1,t1,hn2,t2,ev1,g2,g2s,ev2]|refine WP_drw ?_|refine cnd_intro (fun hsp=>?_) fun hsp=>?_)
      refine fI ?_ xh2
      unfold chkL
      rw [if_neg (by simpa using c0),if_neg u2,if_pos (.inr (by rw [c4];simp))]
     | true =>
      rw [c4] at ev2
      have u3:¬ (¬ (L.C.all (setB L.T))=true ∨ ¬ (L.R.all fun r=>decide (0≤r.1∧r.1≤999) && setB L.T r.2.1)=true):=by rw [c3,c4];simp
      have ev3:=every_R (base:=h.length) (h:=G2) (v:=rv) (g:=.fn 69 [] [.ptr (some ⟨G0.length,0,0⟩)]) (fun r=>setB L.T r.2.2 && subB r.2.2 r.2.1) (hR.ext xh2) ⟨rfl,rfl,rfl⟩ (fun base T x hx=>run_chk3 c0 (get_app g2) (get_app g2s) (by have:=List.all_eq_true.1 c4 x hx;simp only [Bool.and_eq_true] at this;exact this.2))
      cases c5:L.R.all (fun r=>setB L.T r.2.2 && subB r.2.2 r.2.1) with
      | false =>
       rw [c5] at ev3
       have hsp:=@Nat.succ_ne_zero;repeat' (first|simp (disch:=first|exact dq|fail) only [go_sem,↓reduceIte,hsp,← eG0,g0,t0,← eG1,g1,g1s,hn1,t1,hn2,t2,ev1,g2,g2s,ev2,ev3]|refine WP_drw ?_|refine cnd_intro (fun hsp=>?_) fun hsp=>?_)
       refine fI ?_ xh2
       unfold chkL
       rw [if_neg (by simpa using c0),if_neg u2,if_neg u3,if_pos (by rw [c5];simp)]
      | true =>
       rw [c5] at ev3
       cases c6:twB L.C with
       | true =>
        rw [c6] at htw
        have hsp:=@Nat.succ_ne_zero;repeat' (first|simp (disch:=first|exact dq|fail) only [go_sem,↓reduceIte,hsp,← eG0,g0,t0,← eG1,g1,g1s,hn1,t1,hn2,t2,ev1,g2,g2s,ev2,ev3,htw]|refine WP_drw ?_|refine cnd_intro (fun hsp=>?_) fun hsp=>?_)
        refine fI ?_ xh2
        unfold chkL
        rw [if_neg (by simpa using c0),if_neg u2,if_neg u3,if_neg (by rw [c5];simp),if_pos c6]
       | false =>
        rw [c6] at htw
        have hsp:=@Nat.succ_ne_zero;repeat' (first|simp (disch:=first|exact dq|fail) only [go_sem,↓reduceIte,hsp,← eG0,g0,t0,← eG1,g1,g1s,hn1,t1,hn2,t2,ev1,g2,g2s,ev2,ev3,htw]|refine WP_drw ?_|refine cnd_intro (fun hsp=>?_) fun hsp=>?_)
        refine fI ?_ xh2
        unfold chkL
        rw [if_neg (by simpa using c0),if_neg u2,if_neg u3,if_neg (by rw [c5];simp),if_neg (by rw [c6];simp)]
  ·have t1:decide (1≤(L.C.length:Int)∧(L.C.length:Int)≤7)=false:=decide_eq_false c1
   have hsp:=@Nat.succ_ne_zero;repeat' (first|simp (disch:=first|exact dq|fail) only [go_sem,↓reduceIte,hsp,← eG0,g0,t0,← eG1,g1,g1s,hn1,t1]|refine WP_drw ?_|refine cnd_intro (fun hsp=>?_) fun hsp=>?_)
   refine fI ?_ xh1
   unfold chkL
   rw [if_neg (by simpa using c0),if_pos (.inl c1)]
 ·have t0:decide (1≤L.T∧L.T≤8)=false:=decide_eq_false c0
  unfold lacB at eG0 g0
  refine callL_run func15 rfl rfl ?_
  have hsp:=@Nat.succ_ne_zero;repeat' (first|simp (disch:=first|exact dq|fail) only [go_sem,↓reduceIte,hsp,← eG0,g0,t0]|refine WP_drw ?_|refine cnd_intro (fun hsp=>?_) fun hsp=>?_)
  refine fI ?_ x0
  unfold chkL
  rw [if_pos c0]
end Go.AM
namespace Go.AM
section
variable {α β:Type} {E:Enc α} {E2:Enc β} {P:Program} {base b b2 k:Nat} {h H:Heap} {v w x:AVal} {l m:List α} {l2:List β} {t e e2:TypeId} {zs:List AVal}
def snV (h:Heap) (v:AVal) (k:Nat):AVal:=match v with
 | .slice (some r) n _=>.slice (some ⟨r.id,r.ver+1,0⟩) (n+k) (n+k)
 | _=>.slice (some ⟨h.length,0,0⟩) k k
def snH (E:Enc α) (e:TypeId) (h:Heap) (v:AVal) (l m:List α):Heap:=match v with
 | .slice (some r) _ _=>h.set r.id (rowE E e (l++m) (r.ver+1))
 | _=>h++[rowE E e m 0]
def Asun (v w:AVal):Prop:=∀ r n c s k d,v=.slice (some r) n c→w=.slice (some s) k d→r.id ≠ s.id
theorem Asun.symm (x:Asun v w):Asun w v:=fun r n c s k d a b q=>x s k d r n c b a q.symm
theorem Asun.nil:Asun v (.slice none 0 0):=fun _ _ _ _ _ _ _ q=>by cases q
theorem Asun.nil':Asun (.slice none 0 0) v:=fun _ _ _ _ _ _ q=>by cases q
theorem snV_one:One (snV h v k):=by unfold snV;split<;>exact ⟨rfl,rfl,rfl⟩
theorem snH_len:h.length≤(snH E e h v l m).length:=by unfold snH;split<;>simp
theorem app_sn (hO:Own E e b h v l) (ht:elS P t=some (e,E.z,zs)) (hs:∀ y,(E.cells y).all AVal.scalar=true) (hb:base≤b) (hm:0<m.length) (hsz:l.length+m.length<2147483648)
  (hx1:lenA E.z x=some m.length) (hx2:firstN h E.z m.length x=some (flat E m)):appendA P base h t v x=some (snV h v m.length,snH E e h v l m):=by
 rcases hO with ⟨rfl,rfl⟩|⟨id,ver,rfl,h1,h2,h3⟩
 ·simp only [appendA,ht,hx1,hx2,flat_scalar hs,if_true]
  rw [if_neg (by omega),if_pos (show m.length<2 ^ 31 by simp at hsz;omega)]
  rfl
 ·simp only [appendA,ht,hx1,hx2,flat_scalar hs,if_true]
  rw [if_neg (by omega),h1]
  simp only [rowE,flat_len]
  rw [if_pos ⟨trivial,trivial,trivial,trivial,show l.length+m.length<2 ^ 31 from hsz,h3,.inl (by omega)⟩]
  rw [List.take_of_length_le (by rw [flat_len];exact Nat.le_refl _),← flat_app]
  rfl
theorem app_snR (hO:Own E e b h v l) (hR:Rows E h x m) (ht:elS P t=some (e,E.z,zs)) (hs:∀ y,(E.cells y).all AVal.scalar=true) (hb:base≤b) (hm:0<m.length) (hsz:l.length+m.length<2147483648) :
  appendA P base h t v x=some (snV h v m.length,snH E e h v l m):=app_sn hO ht hs hb hm hsz hR.lenA hR.firstN
theorem app_sn1 {y:α} {a:AVal} (hO:Own E e b h v l) (hz:E.z=1) (hy:E.cells y=[a]) (ht:elS P t=some (e,1,zs)) (hs:∀ y,(E.cells y).all AVal.scalar=true) (hb:base≤b) (hsz:l.length+1<2147483648) :
  appendA P base h t v (.vals [a])=some (snV h v 1,snH E e h v l [y]):=by
 refine app_sn (m:=[y]) hO (by rw [hz];exact ht) hs hb (by simp) (by simpa using hsz) ?_ ?_
 ·rw [hz];rfl
 ·rw [hz];simp [firstN,flat,hy]
theorem Own.sn (hO:Own E e b h v l) (hbh:b≤h.length) (hm:0<m.length):Own E e b (snH E e h v l m) (snV h v m.length) (l++m):=by
 rcases hO with ⟨rfl,rfl⟩|⟨id,ver,rfl,h1,h2,h3⟩
 ·exact .inr ⟨h.length,0,by simp [snV],get_eq rfl,hbh,by simpa using hm⟩
 ·exact .inr ⟨id,ver+1,by simp [snV],by unfold snH;simp only;rw [List.getElem?_set_self (lt_of_get h1)],h2,by simp;omega⟩
theorem Own.sn_ext (hO:Own E e b h v l) (hG:H.length≤b) (g:Ext H h):Ext H (snH E e h v l m):=by
 rcases hO with ⟨rfl,rfl⟩|⟨id,ver,rfl,h1,h2,h3⟩
 ·exact .app g
 ·exact g.set (show H.length≤id by omega)
theorem Own.sn_oth (hO:Own E2 e2 b2 h w l2) (hA:Asun v w):Own E2 e2 b2 (snH E e h v l m) w l2:=by
 unfold snH
 split
 ·rename_i r n c
  rcases hO with ⟨rfl,rfl⟩|⟨id,ver,rfl,h1,h2,h3⟩
  ·exact .nil
  ·exact .inr ⟨id,ver,rfl,by rw [List.getElem?_set_ne (hA _ _ _ _ _ _ rfl rfl)];exact h1,h2,h3⟩
 ·exact hO.app
theorem Own.sn_asun (hO:Own E2 e2 b2 h w l2) (hA:Asun v w):Asun (snV h v k) w:=by
 intro r n c s i d q1 q2
 unfold snV at q1
 split at q1
 ·rename_i r' n' c'
  simp only [AVal.slice.injEq,Option.some.injEq] at q1
  obtain ⟨q1,_,_⟩:=q1
  rw [← q1]
  exact hA r' n' c' _ _ _ rfl q2
 ·simp only [AVal.slice.injEq,Option.some.injEq] at q1
  obtain ⟨rfl,_,_⟩:=q1
  rcases hO with ⟨rfl,rfl⟩|⟨id,ver,rfl,h1,h2,h3⟩
  ·cases q2
  ·simp only [AVal.slice.injEq,Option.some.injEq] at q2
   obtain ⟨rfl,_,_⟩:=q2
   have:=lt_of_get h1
   show h.length ≠ id
   omega
end
theorem WP_cmeet {P:Program} {raw:FuncId→Bool} {base:Nat} {c:Code} {id:Nat} {FR:AFrame} {H:Heap} {Q:AExit→St→Prop} (mod:List (Nat × Nat)) (a N:Nat) (haN:a≤N) (J:Heap→Nat→AFrame→Heap→Prop) (X:AFrame→Heap→Prop) (h0:J H a FR H)
  (step:∀ i fr h,a≤i→i<N→Agree mod fr FR→J H i fr h→WP P raw base c ⟨fr,h⟩ (thenQ (fun s'=>Agree mod s'.fr FR∧J H (i+1) s'.fr s'.h) (inBlockQ id (thenQ (fun s'=>Agree mod s'.fr FR∧X s'.fr s'.h) Q))))
  (last:∀ fr h,Agree mod fr FR→J H N fr h→WP P raw base c ⟨fr,h⟩ (thenQ (fun _=>False) (inBlockQ id (thenQ (fun s'=>Agree mod s'.fr FR∧X s'.fr s'.h) Q))))
  (k:∀ fr h,Agree mod fr FR→X fr h→Q .normal ⟨fr,h⟩):WP P raw base (.loop c) ⟨FR,H⟩ (inBlockQ id Q):=by
 have key:∀ e s',inBlockQ id (thenQ (fun s'=>Agree mod s'.fr FR∧X s'.fr s'.h) Q) e s'→inBlockQ id Q e s':=fun e s' hq=>by
  cases e with
  | normal=>exact k _ _ hq.1 hq.2
  | ret=>exact hq
  | exit id' =>
   simp only [inBlockQ] at hq ⊢
   split
   ·rename_i c;rw [if_pos c] at hq;exact k _ _ hq.1 hq.2
   ·rename_i c;rw [if_neg c] at hq;exact hq
 refine WP_count mod a N haN J h0 (fun i fr h h1 h2 h3 h4=>?_) fun fr h h3 h4=>?_
 ·obtain ⟨e,s',h5,h6⟩:=step i fr h h1 h2 h3 h4
  refine ⟨e,s',h5,?_⟩
  cases e with
  | normal=>exact h6
  | ret=>exact key .ret s' h6
  | exit id'=>exact key (.exit id') s' h6
 ·obtain ⟨e,s',h5,h6⟩:=last fr h h3 h4
  refine ⟨e,s',h5,?_⟩
  cases e with
  | normal=>exact h6
  | ret=>exact key .ret s' h6
  | exit id'=>exact key (.exit id') s' h6
end Go.AM
namespace Go.AM
open Go.Proofs.Tryz
attribute [-go_sem] put_ne put_same
attribute [local go_sem ↓] put_if
def mpR (es:List (Nat × AVal)):List (AVal × AVal):=es.map fun e=>(.int .i64 (e.1:Int),e.2)
def lkE:List (Nat × AVal)→Nat→AVal
 | [],_=>.slice none 0 0
 | (j,v) :: es,k=>if k=j then v else lkE es k
def upE:List (Nat × AVal)→Nat→AVal→List (Nat × AVal)
 | [],k,v=>[(k,v)]
 | (j,w) :: es,k,v=>if k=j then (k,v) :: es else (j,w) :: upE es k v
def ixE:List (Nat × AVal)→Nat→Option Nat
 | [],_=>none
 | (j,_) :: es,k=>if k=j then some 0 else (ixE es k).map (·+1)
theorem lk_up {k j:Nat} {v:AVal}:∀ {es:List (Nat × AVal)},lkE (upE es k v) j=if j=k then v else lkE es j
 | []=>rfl
 | (i,w) :: es=>by
  have ih:=lk_up (k:=k) (j:=j) (v:=v) (es:=es)
  simp only [upE]
  by_cases h:k=i
  ·rw [if_pos h]
   simp only [lkE]
   split
   ·rfl
   ·rename_i h2
    rw [if_neg (fun q=>h2 (q.trans h.symm))]
  ·rw [if_neg h]
   simp only [lkE,ih]
   by_cases h2:j=i
   ·rw [if_pos h2,if_pos h2,if_neg (fun q=>h (q.symm.trans h2))]
   ·rw [if_neg h2,if_neg h2]
theorem ix_none {k:Nat} {v:AVal}:∀ {es:List (Nat × AVal)},ixE es k=none→lkE es k=.slice none 0 0∧upE es k v=es++[(k,v)]
 | [],_=>⟨rfl,rfl⟩
 | (j,w) :: es,h=>by
  simp only [ixE] at h
  split at h
  ·cases h
  ·rename_i q
   cases hx:ixE es k with
   | some i=>rw [hx] at h;cases h
   | none =>
    obtain ⟨h1,h2⟩:=ix_none (v:=v) hx
    simp only [lkE,upE,if_neg q,h1,h2,List.cons_append]
    exact ⟨trivial,trivial⟩
theorem ix_some {k i:Nat} {v:AVal}:∀ {es:List (Nat × AVal)} {i:Nat},ixE es k=some i→es[i]?=some (k,lkE es k)∧upE es k v=es.set i (k,v)
 | [],_,h=>by cases h
 | (j,w) :: es,i,h=>by
  simp only [ixE] at h
  split at h
  ·rename_i q
   cases h
   subst q
   simp [lkE,upE]
  ·rename_i q
   cases hx:ixE es k with
   | none=>rw [hx] at h;cases h
   | some i' =>
    rw [hx] at h
    cases h
    obtain ⟨h1,h2⟩:=ix_some (i:=i) (v:=v) hx
    simp only [lkE,upE,if_neg q,h1,h2,List.getElem?_cons_succ,List.set_cons_succ]
    exact ⟨trivial,trivial⟩
theorem eqI {a b:Int}:eqT prog eqDepth 3 (.int .i64 a) (.int .i64 b)=some (decide (a=b)):=by
 by_cases h:a=b<;>simp [eqT,eqDepth,h]
theorem find_int {k:Nat}:∀ {es:List (Nat × AVal)},findA prog 3 (.int .i64 (k:Int)) (mpR es)=some (ixE es k)
 | []=>rfl
 | (j,w) :: es=>by
  have ih:=find_int (k:=k) (es:=es)
  simp only [mpR,List.map_cons,findA,eqI,ixE]
  by_cases h:k=j
  ·rw [h];simp
  ·rw [decide_eq_false (by omega),if_neg h]
   simp only
   rw [show findA prog 3 (.int .i64 (k:Int)) (es.map fun e=>(AVal.int .i64 (e.1:Int),e.2))=_ from ih]
   rfl
theorem keyI {a:Int}:keyOk prog eqDepth 3 (.int .i64 a)=true:=by kernel_rfl
theorem zvR:zvA prog 23=some (.slice none 0 0):=by kernel_rfl
theorem look_M {H:Heap} {m k:Nat} {es:List (Nat × AVal)} (hm:H[m]?=some ⟨.map (mpR es),0⟩):lookupA prog H 125 (.map (some m)) (.int .i64 (k:Int)) false=some (lkE es k):=by
 simp only [lookupA,Fc.mp125,entriesA,hm,keyI,if_true,find_int]
 cases hx:ixE es k with
 | none=>simp only [zvR,(ix_none (v:=.emp) hx).1];rfl
 | some i =>
  have h1:=(ix_some (i:=i) (v:=.emp) hx).1
  simp only [mpR,List.getElem?_map,h1,Option.map_some]
  rfl
theorem upd_M {base:Nat} {H:Heap} {m k:Nat} {es:List (Nat × AVal)} {v:AVal} (hb:base≤m) (hm:H[m]?=some ⟨.map (mpR es),0⟩):mapUpdateA prog base H 125 (.map (some m)) (.int .i64 (k:Int)) v=some (H.set m ⟨.map (mpR (upE es k v)),0⟩):=by
 simp only [mapUpdateA,Fc.mp125,hm,keyI,find_int]
 rw [if_pos ⟨trivial,.inl hb⟩]
 cases hx:ixE es k with
 | none=>simp only [(ix_none (v:=v) hx).2,mpR,List.map_append,List.map_cons,List.map_nil]
 | some i =>
  obtain ⟨h1,h2⟩:=ix_some (i:=i) (v:=v) hx
  have e1:((mpR es)[i]?).map (·.1)=some (.int .i64 (k:Int)):=by
   simp only [mpR,List.getElem?_map,h1,Option.map_some]
  simp only
  rw [if_pos e1,h2]
  simp only [mpR,List.map_set]
abbrev dskB (T:Int) (cv rv:AVal) (fl:List Bool):ABlk:=⟨.cells (.int .i64 T :: cv :: rv :: fl.map AVal.bool) 81 false false,0⟩
def flD (L:Lac) (p k:Nat):List Bool:=(List.range 49).map fun i=>decide (i / 7<L.C.length∧i % 7<L.C.length∧(i / 7<p ∨ (i / 7=p∧i % 7<k))) && fitB L (i / 7) (i % 7)
theorem flD_len {L:Lac} {p k:Nat}:(flD L p k).length=49:=by simp [flD]
theorem flD_at {L:Lac} {p k i:Nat} (hi:i<49):(flD L p k)[i]?=some (decide (i / 7<L.C.length∧i % 7<L.C.length∧(i / 7<p ∨ (i / 7=p∧i % 7<k))) && fitB L (i / 7) (i % 7)):=by
 unfold flD
 rw [List.getElem?_map,List.getElem?_range hi];rfl
theorem flD_step {L:Lac} {p k:Nat} (hn:L.C.length≤7) (hp:p<L.C.length) (hk:k<L.C.length):(flD L p k).set (p * 7+k) (fitB L p k)=flD L p (k+1):=by
 refine List.ext_getElem? fun i=>?_
 rw [List.getElem?_set,flD_len]
 by_cases hi:i<49
 ·rw [flD_at hi]
  by_cases e:p * 7+k=i
  ·rw [if_pos e,if_pos (by omega),flD_at hi]
   have h1:i / 7=p:=by omega
   have h2:i % 7=k:=by omega
   rw [h1,h2,decide_eq_true (by omega),Bool.true_and]
  ·rw [if_neg e,flD_at hi]
   congr 2
   apply decide_eq_decide.2
   have h0:7 * (i / 7)+i % 7=i:=Nat.div_add_mod i 7
   constructor
   ·rintro ⟨a,b,c⟩;exact ⟨a,b,by omega⟩
   ·rintro ⟨a,b,c⟩;refine ⟨a,b,?_⟩
    rcases c with c|⟨c,d⟩
    ·exact .inl c
    ·refine .inr ⟨c,?_⟩
     rcases Nat.lt_or_ge (i % 7) k with q|q
     ·exact q
     ·exfalso;apply e;rw [← c,show k=i % 7 by omega];omega
 ·rw [List.getElem?_eq_none (by rw [flD_len];omega),List.getElem?_eq_none (by rw [flD_len];omega)]
  split
  ·omega
  ·rfl
theorem flD_row {L:Lac} {p:Nat}:flD L p L.C.length=flD L (p+1) 0:=by
 refine List.ext_getElem? fun i=>?_
 by_cases hi:i<49
 ·rw [flD_at hi,flD_at hi]
  congr 2
  apply decide_eq_decide.2
  constructor
  ·rintro ⟨a,b,c⟩;exact ⟨a,b,by omega⟩
  ·rintro ⟨a,b,c⟩;exact ⟨a,b,by omega⟩
 ·rw [List.getElem?_eq_none (by rw [flD_len];omega),List.getElem?_eq_none (by rw [flD_len];omega)]
theorem flD_zero {L:Lac}:flD L 0 0=List.replicate 49 false:=by
 refine List.ext_getElem? fun i=>?_
 by_cases hi:i<49
 ·rw [flD_at hi,List.getElem?_replicate,if_pos hi,decide_eq_false (by omega),Bool.false_and]
 ·rw [List.getElem?_eq_none (by rw [flD_len];omega),List.getElem?_eq_none (by simp;omega)]
def flA (L:Lac):List Bool:=flD L L.C.length 0
theorem flA_at {L:Lac} {p k:Nat} (hn:L.C.length≤7) (hp:p<L.C.length) (hk:k<L.C.length):(flA L)[p * 7+k]?=some (fitB L p k):=by
 unfold flA
 rw [flD_at (by omega)]
 have h1:(p * 7+k) / 7=p:=by omega
 have h2:(p * 7+k) % 7=k:=by omega
 rw [h1,h2,decide_eq_true ⟨hp,hk,.inl hp⟩,Bool.true_and]
def DskAt (h:Heap) (id:Nat) (L:Lac):Prop:=∃ cv rv,h[id]?=some (dskB L.T cv rv (flA L))∧Ints h cv L.C∧Rows encR h rv L.R
theorem DskAt.ext {h H:Heap} {id:Nat} {L:Lac} (x:DskAt h id L) (e:Ext h H):DskAt H id L:=by
 obtain ⟨cv,rv,h0,h1,h2⟩:=x
 exact ⟨cv,rv,e.get h0,h1.ext e,h2.ext e⟩
def rwsP (L:Lac) (i p:Nat):List Rw3:=(L.R.take i).filter fun r=>decide (r.1.toNat % L.C.length=p)
theorem rwsP_succ {L:Lac} {i p:Nat} {r:Rw3} (hr:L.R[i]?=some r):rwsP L (i+1) p=rwsP L i p++(if r.1.toNat % L.C.length=p then [r] else []):=by
 unfold rwsP
 rw [List.take_add_one,hr,List.filter_append]
 congr 1
 simp only [Option.toList,List.filter_cons,List.filter_nil,decide_eq_true_eq]
theorem rwsP_all {L:Lac} {p k:Nat}:(rwsP L L.R.length p).all (fun r=>decide ((L.C.getD k 0).toNat &&& r.2.1.toNat=r.2.2.toNat))=fitB L p k:=by
 unfold rwsP
 rw [List.take_length,Bool.eq_iff_iff,fitB_iff,List.all_eq_true]
 constructor
 ·intro h r hr hp
  exact of_decide_eq_true (h r (List.mem_filter.2 ⟨hr,decide_eq_true hp⟩))
 ·intro h r hr
  obtain ⟨h1,h2⟩:=List.mem_filter.1 hr
  exact decide_eq_true (h r h1 (of_decide_eq_true h2))
end Go.AM
namespace Go.AM
open Go.Proofs.Tryz
attribute [-go_sem] put_ne put_same
attribute [local go_sem ↓] put_if
theorem run_opn {base id:Nat} {h:Heap} {c:Int} {r:Rw3} (hg:h[id]?=some (nB c)) (hc:0≤c∧c<4611686018427387904) (hm:0≤r.2.1∧r.2.1<4611686018427387904) (hs:0≤r.2.2) :
  callL prog raw base (.fn 92 [] [.ptr (some ⟨id,0,0⟩)]) [.agg (encR.cells r)] h=some (.bool (decide (c.toNat &&& r.2.1.toNat=r.2.2.toNat)),h):=by
 have hid:=lt_of_get hg
 obtain ⟨a,ea⟩:=Int.eq_ofNat_of_zero_le hc.1
 obtain ⟨b,eb⟩:=Int.eq_ofNat_of_zero_le hm.1
 obtain ⟨d,ed⟩:=Int.eq_ofNat_of_zero_le hs
 have ha:=andN (t:=3) (a:=a) (b:=b) (by omega) (by omega)
 unfold nB at hg
 rw [ea] at hg ⊢
 simp only [encR]
 rw [eb,ed]
 refine callL_run func92 rfl rfl ?_
 have hsp:=@Nat.succ_ne_zero;repeat' (first|simp (disch:=first|exact dq|fail) only [go_sem,↓reduceIte,hsp,hg,ha]|refine WP_drw ?_|refine cnd_intro (fun hsp=>?_) fun hsp=>?_)
 refine fB ?_
 exact decide_eq_decide.2 ⟨fun q=>by omega,fun q=>by omega⟩
theorem bsR1 {lit:Bool} {H:Heap} {r:Rw3}:bsA prog lit H 23 1 [(0,.agg [.int .i64 r.1,.int .i64 r.2.1,.int .i64 r.2.2])]=some (.slice (some ⟨H.length,0,0⟩) 1 1,H++[rowE encR 28 [r] 0]):=by
 simp [bsA,rowOf,Fc.el23,fillA,repCells,AVal.isN,AVal.cells,splice,rowE,flat,encR]
abbrev rwB (r:Rw3):ABlk:=⟨.cells [.int .i64 r.1,.int .i64 r.2.1,.int .i64 r.2.2] 28 false false,0⟩
theorem bdD {T:Int} {cv rv:AVal} (h1:One cv) (h2:One rv):buildA prog 81 [(0,.agg [.int .i64 T,cv,rv])]=some (.agg (.int .i64 T :: cv :: rv :: (List.replicate 49 false).map AVal.bool)):=by
 have e:=Fc.bd81_0 (y0_0:=.int .i64 T) (y0_1:=cv) (y0_2:=rv)
 rw [e];rfl
theorem st_dsk {base d p k:Nat} {T:Int} {cv rv:AVal} {fl:List Bool} {b:Bool} {F:ABlk→Heap} (hb:base≤d) (hl:fl.length=49) (hp:p<7) (hk:k<7):stQ base d (some (dskB T cv rv fl)) 0 (3+p * 7+k) [.bool b] F=some (F (dskB T cv rv (fl.set (p * 7+k) b))):=by
 rw [stQ_own hb (by simp [hl];omega) rfl]
 congr 2
 simp only [splice]
 rw [show 3+p * 7+k=(p * 7+k)+1+1+1 by omega,List.set_cons_succ,List.set_cons_succ,List.set_cons_succ]
 unfold dskB
 rw [List.map_set]
set_option maxRecDepth 100000 in
set_option maxHeartbeats 4000000 in
theorem run_opened {base:Nat} {h:Heap} {v:AVal} {L:Lac} (hb:base≤h.length) (hL:LacAt h v L) :
  Ret prog raw base (.fn 44 [] []) [v] h (fun w H=>Ext h H∧(chkL L ≠ 0→w=.tuple [.ptr none,.int .i64 (chkL L)])∧(chkL L=0→∃ id,w=.tuple [.ptr (some ⟨id,0,0⟩),.int .i64 0]∧h.length≤id∧DskAt H id L)):=by
 have hck:=fun base (a:ABlk)=>run_Check (base:=base) (hL.ext (.app (t:=[a]) .refl))
 obtain ⟨cv,rv,rfl,hC,hR⟩:=hL
 have o1:=hC.one
 have o2:=hR.one
 obtain ⟨G0,eG0⟩:∃ G0,G0=h++[lacB L.T cv rv]:=⟨_,rfl⟩
 have x0:Ext h G0:=by rw [eG0];exact .app .refl
 have g0:G0[h.length]?=some (lacB L.T cv rv):=by rw [eG0];exact get_eq rfl
 have l0:G0.length=h.length+1:=by rw [eG0];simp
 have hck0:=fun base=>hck base (lacB L.T cv rv)
 rw [← eG0] at hck0
 by_cases c0:chkL L=0
 ·obtain ⟨kT,kn,km,kc,kr,kd⟩:=chkL_iff.1 c0
  rw [c0] at hck0
  have hpw:=pow_le (w:=L.T) (by omega) (by omega)
  obtain ⟨n,en⟩:∃ n,n=L.C.length:=⟨_,rfl⟩
  obtain ⟨G1,eG1⟩:∃ G1,G1=G0++[dskB L.T cv rv (flD L 0 0)]:=⟨_,rfl⟩
  have x1:Ext G0 G1:=by rw [eG1];exact .app .refl
  have g1:=x1.get g0
  have g1d:G1[G0.length]?=some (dskB L.T cv rv (flD L 0 0)):=by rw [eG1];exact get_eq rfl
  have l1:G1.length=h.length+2:=by rw [eG1];simp [l0]
  obtain ⟨G2,eG2⟩:∃ G2,G2=G1++[⟨.map [],0⟩]:=⟨_,rfl⟩
  have x2:Ext G1 G2:=by rw [eG2];exact .app .refl
  have g2:=x2.get g1
  have g2d:=x2.get g1d
  have g2m:G2[G1.length]?=some ⟨.map (mpR []),0⟩:=by rw [eG2];exact get_eq rfl
  have l2:G2.length=h.length+3:=by rw [eG2];simp [l1]
  have xh2:=(x0.trans x1).trans x2
  have hnR:=(hR.ext xh2).len (P:=prog) Fc.el23
  have bd:=bdD (T:=L.T) o1 o2
  rw [← flD_zero (L:=L)] at bd
  have eG1':G0++[(⟨.cells (.int .i64 L.T :: cv :: rv :: (flD L 0 0).map AVal.bool) 81 false false,0⟩:ABlk)]=G1:=eG1.symm
  unfold lacB at eG0 g0 g1 g2
  refine ret_raw func44 rfl (by kernel_rfl) ?_
  have hsp:=@Nat.succ_ne_zero;repeat' (first|simp (disch:=first|exact dq|fail) only [go_sem,↓reduceIte,hsp,← eG0,g0,hck0,eq_self,bd,eG1',← eG2,g2,hnR]|refine WP_drw ?_|refine cnd_intro (fun hsp=>?_) fun hsp=>?_)
  refine WP_count [(8,9),(25,43)] 0 L.R.length (Nat.zero_le _) (fun _ i fr H=>fr 25=.int .i64 (i:Int)∧Ext G1 H∧G2.length≤H.length∧∃ es,H[G1.length]?=some ⟨.map (mpR es),0⟩∧(∀ p,Own encR 28 G2.length H (lkE es p) (rwsP L i p))∧∀ p q,p ≠ q→Asun (lkE es p) (lkE es q)) ?_ ?_ ?_
  ·exact ⟨by (simp (disch:=first|exact dq|fail) only [go_sem,↓reduceIte,Int.natCast_zero];first|done|rfl),x2,Nat.le_refl _,[],g2m,fun p=>Own.nil,fun p q _=>Asun.nil⟩
  ·rintro i fr H hi0 hi hA ⟨r25,xH,lH,es,gm,hO,hA1⟩
   have p1:=hA 1 rfl
   have p2:=hA 2 rfl
   have p3:=hA 3 rfl
   have p5:=hA 5 rfl
   have p6:=hA 6 rfl
   have p23:=hA 23 rfl
   have p24:=hA 24 rfl
   try simp (disch:=first|exact dq|fail) only [go_sem,↓reduceIte] at p1 p2 p3 p5 p6 p23 p24
   have hlt:((i:Int)<(L.R.length:Int))=True:=eq_true (by omega)
   obtain ⟨r,er⟩:∃ r,L.R[i]=r:=⟨_,rfl⟩
   have hx:L.R[i]?=some r:=by rw [List.getElem?_eq_getElem hi,er]
   have hrk:=kr r (List.mem_of_getElem? hx)
   have xh:=(x0.trans x1).trans xH
   have hRH:=hR.ext xh
   have ad:=hRH.addr (P:=prog) (i:=(i:Int)) Fc.el23 Fc.ar23 (by omega) (by omega)
   rw [Int.toNat_natCast] at ad
   have ld:=hRH.load (P:=prog) Fc.ty28 hx
   simp only [encR] at ad ld
   obtain ⟨K,eK⟩:∃ K,K=H++[rwB r]:=⟨_,rfl⟩
   have xK:Ext H K:=by rw [eK];exact .app .refl
   have gK:K[H.length]?=some (rwB r):=by rw [eK];exact get_eq rfl
   have lK:K.length=H.length+1:=by rw [eK];simp
   have gc:K[h.length]?=some (lacB L.T cv rv):=(xH.trans xK).get g1
   have hnC:=lenI (hC.ext (xh.trans xK))
   have hrem:=remN (x:=r.1) (n:=L.C.length) hrk.1.1 (by omega)
   obtain ⟨q,eq⟩:∃ q,q=r.1.toNat % L.C.length:=⟨_,rfl⟩
   rw [← eq] at hrem
   have gmK:=xK.get gm
   have lk:=look_M (k:=q) gmK
   obtain ⟨K2,eK2⟩:∃ K2,K2=K++[rowE encR 28 [r] 0]:=⟨_,rfl⟩
   have xK2:Ext K K2:=by rw [eK2];exact .app .refl
   have lK2:K2.length=K.length+1:=by rw [eK2];simp
   have hOK:∀ p,Own encR 28 G2.length K2 (lkE es p) (rwsP L i p):=fun p=>(hO p).ext (xK.trans xK2)
   have hrl:(rwsP L i q).length≤12:=Nat.le_trans (List.length_filter_le _ _) (Nat.le_trans (List.length_take_le _ _) (by omega))
   have hap:=app_snR (P:=prog) (base:=base) (x:=.slice (some ⟨K.length,0,0⟩) 1 1) (m:=[r]) (hOK q) (Rows.own (by rw [eK2];exact get_eq rfl) rfl (by simp)) Fc.el23 encR_sc (by omega) (by simp) (by simp;omega)
   obtain ⟨K3,eK3⟩:∃ K3,K3=snH encR 28 K2 (lkE es q) (rwsP L i q) [r]:=⟨_,rfl⟩
   obtain ⟨w3,ew3⟩:∃ w3,w3=snV K2 (lkE es q) 1:=⟨_,rfl⟩
   rw [← eK3,show [r].length=1 from rfl,← ew3] at hap
   have ow3:One w3:=by rw [ew3];exact snV_one
   have lK3:K2.length≤K3.length:=by rw [eK3];exact snH_len
   have xtk:Ext (K2.take G2.length) K2:=⟨K2.drop G2.length,(List.take_append_drop _ _).symm⟩
   have xt3:Ext (K2.take G2.length) K3:=by rw [eK3];exact (hOK q).sn_ext (by simp;omega) xtk
   have gm2:K2[G1.length]?=some ⟨.map (mpR es),0⟩:=xK2.get gmK
   have gm3:K3[G1.length]?=some ⟨.map (mpR es),0⟩:=xt3.get (by rw [List.getElem?_take,if_pos (by omega)];exact gm2)
   have up:=upd_M (base:=base) (k:=q) (v:=w3) (by omega) gm3
   obtain ⟨K4,eK4⟩:∃ K4,K4=K3.set G1.length ⟨.map (mpR (upE es q w3)),0⟩:=⟨_,rfl⟩
   rw [← eK4] at up
   have lK4:K4.length=K3.length:=by rw [eK4,List.length_set]
   have xG3:Ext G1 K3:=by
    obtain ⟨t,et⟩:=(xH.trans xK).trans xK2
    refine Ext.trans ⟨t.take (G2.length-G1.length),?_⟩ xt3
    rw [et,List.take_append,List.take_of_length_le (by omega)]
   have xG4:Ext G1 K4:=by rw [eK4];exact xG3.set (Nat.le_refl _)
   have hO3:∀ p,Own encR 28 G2.length K3 (lkE (upE es q w3) p) (rwsP L (i+1) p):=fun p=>by
    rw [lk_up,rwsP_succ hx,← eq]
    by_cases e:p=q
    ·rw [if_pos e,if_pos e.symm,e,ew3,eK3]
     exact (hOK q).sn (m:=[r]) (by omega) (by simp)
    ·rw [if_neg e,if_neg (fun z=>e z.symm),List.append_nil,eK3]
     exact (hOK p).sn_oth (hA1 q p (fun z=>e z.symm))
   unfold rwB at eK gK
   unfold lacB at gc
   have hsp:=@Nat.succ_ne_zero;repeat' (first|simp (disch:=first|exact dq|fail) only [go_sem,↓reduceIte,hsp,r25,p1,p2,p3,p5,p6,p23,p24,hlt,ad,ld,← eK,gK,gc,hnC,hrem,lk,bsR1,← eK2,hap,up]|refine WP_drw ?_|refine cnd_intro (fun hsp=>?_) fun hsp=>?_)
   refine ⟨agq,by omega,xG4,by omega,upE es q w3,by rw [eK4,List.getElem?_set_self (by omega)],fun p=>?_,fun p p' hne=>?_⟩
   ·rw [eK4];exact (hO3 p).set (by omega)
   ·rw [lk_up,lk_up]
    by_cases e1:p=q
    ·rw [if_pos e1,if_neg (fun z=>hne (e1.trans z.symm)),ew3]
     exact (hOK p').sn_asun (hA1 q p' (fun z=>hne (e1.trans z)))
    ·by_cases e2:p'=q
     ·rw [if_neg e1,if_pos e2,ew3]
      exact ((hOK p).sn_asun (hA1 q p (fun z=>e1 z.symm))).symm
     ·rw [if_neg e1,if_neg e2];exact hA1 p p' hne
  ·rintro fr G3 hA ⟨r25,xG3,lG3,es,gm,hO,-⟩
   have p1:=hA 1 rfl
   have p2:=hA 2 rfl
   have p3:=hA 3 rfl
   have p5:=hA 5 rfl
   have p6:=hA 6 rfl
   have p23:=hA 23 rfl
   have p24:=hA 24 rfl
   try simp (disch:=first|exact dq|fail) only [go_sem,↓reduceIte] at p1 p2 p3 p5 p6 p23 p24
   have hlt:((L.R.length:Int)<(L.R.length:Int))=False:=eq_false (by omega)
   have gc:=xG3.get g1
   have hnC:=lenI (hC.ext ((x0.trans x1).trans xG3))
   have hsp:=@Nat.succ_ne_zero;repeat' (first|simp (disch:=first|exact dq|fail) only [go_sem,↓reduceIte,hsp,r25,p1,p2,p3,p5,p6,p23,p24,hlt,gc,hnC]|refine WP_drw ?_|refine cnd_intro (fun hsp=>?_) fun hsp=>?_)
   have g3d:G3[G0.length]?=some (dskB L.T cv rv (flD L 0 0)):=xG3.get g1d
   have ld3:=lt_of_get g3d
   obtain ⟨D,eD⟩:∃ D:Nat→Nat→Heap,D=fun p k=>G3.set G0.length (dskB L.T cv rv (flD L p k)):=⟨_,rfl⟩
   have lD:∀ p k,(D p k).length=G3.length:=fun p k=>by rw [eD];exact List.length_set
   have gD:∀ p k,(D p k)[G0.length]?=some (dskB L.T cv rv (flD L p k)):=fun p k=>by rw [eD];exact List.getElem?_set_self ld3
   have gDc:∀ p k,(D p k)[h.length]?=some (lacB L.T cv rv):=fun p k=>by rw [eD];exact (List.getElem?_set_ne (by omega)).trans gc
   have gDm:∀ p k,(D p k)[G1.length]?=some ⟨.map (mpR es),0⟩:=fun p k=>by rw [eD];exact (List.getElem?_set_ne (by omega)).trans gm
   have xD:∀ p k,Ext h (D p k):=fun p k=>by rw [eD];exact ((x0.trans x1).trans xG3).set (by omega)
   have oD:∀ p k p',Own encR 28 G2.length (D p k) (lkE es p') (rwsP L L.R.length p'):=fun p k p'=>by rw [eD];exact (hO p').set (by omega)
   have eD0:G3=D 0 0:=by rw [eD];exact (set_id g3d).symm
   have hDD:∀ p k p' k',(D p k).set G0.length (dskB L.T cv rv (flD L p' k'))=D p' k':=fun p k p' k'=>by rw [eD];exact List.set_set ..
   have hrow:∀ p,D p L.C.length=D (p+1) 0:=fun p=>by rw [eD];simp only [flD_row]
   unfold lacB at gDc
   refine WP_count [(10,12),(47,71)] 0 L.C.length (Nat.zero_le _) (fun _ p fr H=>fr 47=.int .i64 (p:Int)∧Ext (D p 0) H) ?_ ?_ ?_
   ·exact ⟨by (simp (disch:=first|exact dq|fail) only [go_sem,↓reduceIte,Int.natCast_zero];first|done|rfl),by rw [← eD0];exact .refl⟩
   ·rintro p' fr2 H hp0 hp' hA2 ⟨r47,xH⟩
    have d1:=hA2 1 rfl
    have d2:=hA2 2 rfl
    have d3:=hA2 3 rfl
    have d5:=hA2 5 rfl
    have d6:=hA2 6 rfl
    have d46:=hA2 46 rfl
    try simp (disch:=first|exact dq|fail) only [go_sem,↓reduceIte,p1,p2,p3,p5,p6] at d1 d2 d3 d5 d6 d46
    have hlt2:((p':Int)<(L.C.length:Int))=True:=eq_true (by omega)
    have gcH:=xH.get (gDc p' 0)
    have hnH:=lenI (hC.ext ((xD p' 0).trans xH))
    have hsp:=@Nat.succ_ne_zero;repeat' (first|simp (disch:=first|exact dq|fail) only [go_sem,↓reduceIte,hsp,r47,d1,d2,d3,d5,d6,d46,p1,p2,p3,p5,p6,p23,p24,hlt2,gcH,hnH]|refine WP_drw ?_|refine cnd_intro (fun hsp=>?_) fun hsp=>?_)
    refine WP_count [(11,12),(53,70)] 0 L.C.length (Nat.zero_le _) (fun _ k fr H=>fr 53=.int .i64 (k:Int)∧Ext (D p' k) H) ?_ ?_ ?_
    ·exact ⟨by (simp (disch:=first|exact dq|fail) only [go_sem,↓reduceIte,Int.natCast_zero];first|done|rfl),xH⟩
    ·rintro k fr3 H3 hk0 hk hA3 ⟨r53,xH3⟩
     have c1:=hA3 1 rfl
     have c2:=hA3 2 rfl
     have c3:=hA3 3 rfl
     have c5:=hA3 5 rfl
     have c6:=hA3 6 rfl
     have c10:=hA3 10 rfl
     have c46:=hA3 46 rfl
     have c47:=hA3 47 rfl
     have c51:=hA3 51 rfl
     have c52:=hA3 52 rfl
     try simp (disch:=first|exact dq|fail) only [go_sem,↓reduceIte,d1,d2,d3,d5,d6,d46] at c1 c2 c3 c5 c6 c10 c46 c47 c51 c52
     have hlt3:((k:Int)<(L.C.length:Int))=True:=eq_true (by omega)
     have iC:=hC.ext ((xD p' k).trans xH3)
     have lk:=loadI iC hk
     have ak:=adrI (i:=(k:Int)) (by omega) iC (by omega)
     rw [Int.toNat_natCast] at ak
     obtain ⟨cc,ecc⟩:∃ cc,cc=L.C.getD k 0:=⟨_,rfl⟩
     rw [← ecc] at lk
     have hcc:=kc cc (by rw [ecc];exact getD_mem hk)
     have hpw2:=hpw
     obtain ⟨K,eK⟩:∃ K,K=H3++[nB cc]:=⟨_,rfl⟩
     have xK:Ext H3 K:=by rw [eK];exact .app .refl
     have gK:K[H3.length]?=some (nB cc):=by rw [eK];exact get_eq rfl
     have xDK:=xH3.trans xK
     have lDK:=xDK.len
     have l3D:=xH3.len
     have lDk:=lD p' k
     have lkp:=look_M (k:=p') (xDK.get (gDm p' k))
     have hrl:(rwsP L L.R.length p').length≤12:=Nat.le_trans (List.length_filter_le _ _) (by rw [List.take_length];omega)
     have hRw:=((oD p' k p').ext xDK).rows (by omega)
     have hev:=every_R (base:=base) (h:=K) (v:=lkE es p') (g:=.fn 92 [] [.ptr (some ⟨H3.length,0,0⟩)]) (l:=rwsP L L.R.length p') (fun r=>decide (cc.toNat &&& r.2.1.toNat=r.2.2.toNat)) hRw ⟨rfl,rfl,rfl⟩ (fun base T r hr=>by
      have hr':=kr r (List.mem_of_mem_take (List.mem_filter.1 hr).1)
      exact run_opn (get_app gK) (by omega) (by omega) hr'.2.2.1.1)
     rw [ecc,rwsP_all] at hev
     have gKd:=xDK.get (gD p' k)
     have hst:=fun F=>st_dsk (F:=F) (base:=base) (d:=G0.length) (p:=p') (k:=k) (T:=L.T) (cv:=cv) (rv:=rv) (fl:=flD L p' k) (b:=fitB L p' k) (by omega) flD_len (by omega) (by omega)
     rw [flD_step kn.2 hp' hk] at hst
     have hfin:Ext (D p' (k+1)) (K.set G0.length (dskB L.T cv rv (flD L p' (k+1)))):=by
      have:=xDK.set2 (i:=G0.length) (k:=dskB L.T cv rv (flD L p' (k+1))) (by omega)
      rwa [hDD] at this
     have ad1:=Fc.ad79 (id:=G0.length) (ver:=0) (o:=3) (i:=(p':Int)) (by omega) (by omega)
     have ad2:=Fc.ad77 (id:=G0.length) (ver:=0) (o:=3+p' * 7) (i:=(k:Int)) (by omega) (by omega)
     rw [Int.toNat_natCast] at ad1 ad2
     rw [Nat.mul_one] at ad2
     unfold nB at eK gK
     have hsp:=@Nat.succ_ne_zero;repeat' (first|simp (disch:=first|exact dq|fail) only [go_sem,↓reduceIte,hsp,r53,r47,c1,c2,c3,c5,c6,c10,c46,c47,c51,c52,d1,d2,d3,d5,d6,d46,p1,p2,p3,p5,p6,p23,p24,hlt3,lk,ak,← eK,lkp,hev,gKd,ad1,ad2,hst]|refine WP_drw ?_|refine cnd_intro (fun hsp=>?_) fun hsp=>?_)
     exact ⟨agq,by omega,hfin⟩
    ·rintro fr3 H3 hA3 ⟨r53,xH3⟩
     have c1:=hA3 1 rfl
     have c2:=hA3 2 rfl
     have c3:=hA3 3 rfl
     have c5:=hA3 5 rfl
     have c6:=hA3 6 rfl
     have c10:=hA3 10 rfl
     have c46:=hA3 46 rfl
     have c47:=hA3 47 rfl
     have c51:=hA3 51 rfl
     have c52:=hA3 52 rfl
     try simp (disch:=first|exact dq|fail) only [go_sem,↓reduceIte,d1,d2,d3,d5,d6,d46] at c1 c2 c3 c5 c6 c10 c46 c47 c51 c52
     have hlt3:((L.C.length:Int)<(L.C.length:Int))=False:=eq_false (by omega)
     have hsp:=@Nat.succ_ne_zero;repeat' (first|simp (disch:=first|exact dq|fail) only [go_sem,↓reduceIte,hsp,r53,r47,c1,c2,c3,c5,c6,c10,c46,c47,c51,c52,d1,d2,d3,d5,d6,d46,p1,p2,p3,p5,p6,p23,p24,hlt3]|refine WP_drw ?_|refine cnd_intro (fun hsp=>?_) fun hsp=>?_)
     exact ⟨agq,by omega,by rw [← hrow];exact xH3⟩
   ·rintro fr2 H hA2 ⟨r47,xH⟩
    have d1:=hA2 1 rfl
    have d2:=hA2 2 rfl
    have d3:=hA2 3 rfl
    have d5:=hA2 5 rfl
    have d6:=hA2 6 rfl
    have d46:=hA2 46 rfl
    try simp (disch:=first|exact dq|fail) only [go_sem,↓reduceIte,p1,p2,p3,p5,p6] at d1 d2 d3 d5 d6 d46
    have hlt2:((L.C.length:Int)<(L.C.length:Int))=False:=eq_false (by omega)
    have hsp:=@Nat.succ_ne_zero;repeat' (first|simp (disch:=first|exact dq|fail) only [go_sem,↓reduceIte,hsp,r47,d1,d2,d3,d5,d6,d46,p1,p2,p3,p5,p6,p23,p24,hlt2]|refine WP_drw ?_|refine cnd_intro (fun hsp=>?_) fun hsp=>?_)
    exact ⟨(xD _ 0).trans xH,fun q=>absurd c0 q,fun _=>⟨G0.length,rfl,by omega,cv,rv,xH.get (gD _ 0),hC.ext ((xD _ 0).trans xH),hR.ext ((xD _ 0).trans xH)⟩⟩
 ·have t0:(chkL L=0)=False:=eq_false c0
  unfold lacB at eG0 g0
  refine ret_raw func44 rfl (by kernel_rfl) ?_
  have hsp:=@Nat.succ_ne_zero;repeat' (first|simp (disch:=first|exact dq|fail) only [go_sem,↓reduceIte,hsp,← eG0,g0,hck0,t0]|refine WP_drw ?_|refine cnd_intro (fun hsp=>?_) fun hsp=>?_)
  exact ⟨x0,by simp,by simp⟩
end Go.AM
namespace Go.AM
open Go.Proofs.Tryz
attribute [-go_sem] put_ne put_same
attribute [local go_sem ↓] put_if
theorem upto_filt {f:Int→Bool} {k:Nat}:(upto (k+1)).filter f=(upto k).filter f++(if f (k:Int)=true then [(k:Int)] else []):=by
 rw [upto_succ,List.filter_append]
 congr 1
 cases h:f (k:Int)<;>simp [h]
def fitN (L:Lac) (p k:Nat):List Int:=(upto k).filter fun k=>fitB L p k.toNat
def fitL (L:Lac) (p:Nat):List Int:=fitN L p L.C.length
theorem fitN_len {L:Lac} {p k:Nat}:(fitN L p k).length≤k:=Nat.le_trans (List.length_filter_le _ _) (by rw [upto_len];omega)
theorem fitN_mem {L:Lac} {p k:Nat} {x:Int} (h:x ∈ fitN L p k):0≤x∧x<(k:Int):=upto_mem.1 (List.mem_filter.1 h).1
theorem ld_dsk {H:Heap} {id p k:Nat} {L:Lac} {cv rv:AVal} (hg:H[id]?=some (dskB L.T cv rv (flA L))) (hn:L.C.length≤7) (hp:p<L.C.length) (hk:k<L.C.length):loadP prog H 4 (.ptr (some ⟨id,0,3+p * 7+k⟩))=some (.bool (fitB L p k)):=by
 rw [load_eq,Fc.ty4,hg,ldB_cell]
 rw [show 3+p * 7+k=(p * 7+k)+1+1+1 by omega,List.getElem?_cons_succ,List.getElem?_cons_succ,List.getElem?_cons_succ,List.getElem?_map,flA_at hn hp hk]
 rfl
set_option maxHeartbeats 1000000 in
theorem run_fit {base id p:Nat} {h:Heap} {L:Lac} (hb:base≤h.length) (hD:DskAt h id L) (hn:L.C.length≤7) (hp:p<L.C.length) :
  Ret prog raw base (.fn 100 [] []) [.ptr (some ⟨id,0,0⟩),.int .i64 (p:Int)] h (fun w H=>Ext h H∧Own encI 3 h.length H w (fitL L p)):=by
 obtain ⟨cv,rv,hg,hC,hR⟩:=hD
 have hid:=lt_of_get hg
 have hlen:=lenI hC
 have ocv:=hC.one
 have hg':=hg
 unfold dskB at hg'
 have ldc:∀ {K:Heap},Ext h K→loadP prog K 22 (.ptr (some ⟨id,0,1⟩))=some cv:=fun {K} e=>by
  rw [load_eq,Fc.ty22,e.get hg',ldB_cell];rfl
 have ld0:=ldc .refl
 refine ret_raw func100 rfl (by kernel_rfl) ?_
 have hsp:=@Nat.succ_ne_zero;repeat' (first|simp (disch:=first|exact dq|fail) only [go_sem,↓reduceIte,hsp,ld0,hlen]|refine WP_drw ?_|refine cnd_intro (fun hsp=>?_) fun hsp=>?_)
 refine WP_count [(5,6),(13,28)] 0 L.C.length (Nat.zero_le _) (fun _ k fr H=>fr 13=.int .i64 (k:Int)∧Ext h H∧∃ v,fr 5=v∧Own encI 3 h.length H v (fitN L p k)) ?_ ?_ ?_
 ·exact ⟨by (simp (disch:=first|exact dq|fail) only [go_sem,↓reduceIte,Int.natCast_zero];first|done|rfl),.refl,.slice none 0 0,by simp (disch:=first|exact dq|fail) only [go_sem,↓reduceIte],Own.nil⟩
 ·rintro k fr H hk0 hk hA ⟨r13,xH,w,r5,hO⟩
  have q0:=hA 0 rfl
  have q1:=hA 1 rfl
  have q4:=hA 4 rfl
  have q12:=hA 12 rfl
  try simp (disch:=first|exact dq|fail) only [go_sem,↓reduceIte] at q0 q1 q4 q12
  have hlt:((k:Int)<(L.C.length:Int))=True:=eq_true (by omega)
  have hw:=hO.one
  have lH:=xH.len
  have hfl:=fitN_len (L:=L) (p:=p) (k:=k)
  have ad1:=Fc.ad79 (id:=id) (ver:=0) (o:=3) (i:=(p:Int)) (by omega) (by omega)
  have ad2:=Fc.ad77 (id:=id) (ver:=0) (o:=3+p * 7) (i:=(k:Int)) (by omega) (by omega)
  rw [Int.toNat_natCast] at ad1 ad2
  rw [Nat.mul_one] at ad2
  have lb:=ld_dsk (xH.get hg) hn hp hk
  have hkk:((k:Int)+1)=((k+1:Nat):Int):=by omega
  have hs:fitN L p (k+1)=fitN L p k++(if fitB L p k=true then [(k:Int)] else []):=by
   have:=upto_filt (f:=fun k=>fitB L p k.toNat) (k:=k)
   rw [Int.toNat_natCast] at this
   exact this
  cases c:fitB L p k with
  | true =>
   rw [c] at lb hs
   rw [if_pos rfl] at hs
   obtain ⟨w',K2,ea,oW,lW,eW,oneW,kW⟩:=OwnE.snocI (base:=base) (x:=(k:Int)) (.inl hO) (by omega) (by omega) (by omega)
   have hsp:=@Nat.succ_ne_zero;repeat' (first|simp (disch:=first|exact dq|fail) only [go_sem,↓reduceIte,hsp,r13,r5,q0,q1,q4,q12,hlt,ad1,ad2,lb,ea]|refine WP_drw ?_|refine cnd_intro (fun hsp=>?_) fun hsp=>?_)
   exact ⟨agq,by omega,eW _ (Nat.le_refl _) xH,w',rfl,by rw [hs];exact oW⟩
  | false =>
   rw [c] at lb hs
   rw [if_neg (by simp),List.append_nil] at hs
   have hsp:=@Nat.succ_ne_zero;repeat' (first|simp (disch:=first|exact dq|fail) only [go_sem,↓reduceIte,hsp,r13,r5,q0,q1,q4,q12,hlt,ad1,ad2,lb]|refine WP_drw ?_|refine cnd_intro (fun hsp=>?_) fun hsp=>?_)
   exact ⟨agq,by omega,xH,w,rfl,by rw [hs];exact hO⟩
 ·rintro fr H hA ⟨r13,xH,w,r5,hO⟩
  have q0:=hA 0 rfl
  have q1:=hA 1 rfl
  have q4:=hA 4 rfl
  have q12:=hA 12 rfl
  try simp (disch:=first|exact dq|fail) only [go_sem,↓reduceIte] at q0 q1 q4 q12
  have hlt:((L.C.length:Int)<(L.C.length:Int))=False:=eq_false (by omega)
  have hw:=hO.one
  have hsp:=@Nat.succ_ne_zero;repeat' (first|simp (disch:=first|exact dq|fail) only [go_sem,↓reduceIte,hsp,r13,r5,q0,q1,q4,q12,hlt]|refine WP_drw ?_|refine cnd_intro (fun hsp=>?_) fun hsp=>?_)
  exact ⟨xH,hO⟩
theorem eq7 {a0 a1 a2 a3 a4 a5 a6:Bool}:binA prog .eql 77 (.agg [.bool false,.bool false,.bool false,.bool false,.bool false,.bool false,.bool false]) (.agg [.bool a0,.bool a1,.bool a2,.bool a3,.bool a4,.bool a5,.bool a6])=some (.bool (!(a0 || a1 || a2 || a3 || a4 || a5 || a6))):=by
 cases a0<;>cases a1<;>cases a2<;>cases a3<;>cases a4<;>cases a5<;>cases a6<;>kernel_rfl
theorem list7 {l:List Bool} (h:l.length=7):∃ a0 a1 a2 a3 a4 a5 a6,l=[a0,a1,a2,a3,a4,a5,a6]:=by
 match l,h with
 | [a0,a1,a2,a3,a4,a5,a6],_=>exact ⟨a0,a1,a2,a3,a4,a5,a6,rfl⟩
def row7 (L:Lac) (i:Nat):List Bool:=((flA L).drop (i * 7)).take 7
theorem row7_len {L:Lac} {i:Nat} (hi:i<7):(row7 L i).length=7:=by
 unfold row7 flA
 rw [List.length_take,List.length_drop,flD_len];omega
theorem row7_any {L:Lac} {i:Nat} (hn:L.C.length≤7) (hi:i<L.C.length):(row7 L i).any id=false ↔ ∀ k,k<L.C.length→fitB L i k=false:=by
 have hat:∀ k,k<7→(row7 L i)[k]?=some (decide (k<L.C.length) && fitB L i k):=fun k hk=>by
  unfold row7 flA
  rw [List.getElem?_take,if_pos hk,List.getElem?_drop,flD_at (by omega)]
  have h1:(i * 7+k) / 7=i:=by omega
  have h2:(i * 7+k) % 7=k:=by omega
  rw [h1,h2]
  congr 2
  exact decide_eq_decide.2 ⟨fun q=>q.2.1,fun q=>⟨hi,q,.inl hi⟩⟩
 rw [Bool.eq_false_iff]
 constructor
 ·intro h k hk
  cases c:fitB L i k with
  | false=>rfl
  | true =>
   refine absurd (List.any_eq_true.2 ⟨true,List.mem_of_getElem? (i:=k) ?_,rfl⟩) h
   rw [hat k (by omega),c,decide_eq_true hk];rfl
 ·intro h q
  obtain ⟨b,hb,hb2⟩:=List.any_eq_true.1 q
  obtain ⟨k,hk,e⟩:=List.mem_iff_getElem.1 hb
  rw [row7_len (by omega)] at hk
  have:=hat k hk
  rw [List.getElem?_eq_getElem (by rw [row7_len (by omega)];exact hk),e] at this
  have hb3:b=true:=hb2
  rw [hb3] at this
  simp only [Option.some.injEq] at this
  have h2:=Bool.and_eq_true_iff.1 this.symm
  have:=h k (of_decide_eq_true h2.1)
  rw [this] at h2
  cases h2.2
theorem ld_row {H:Heap} {id i:Nat} {L:Lac} {cv rv:AVal} (hg:H[id]?=some (dskB L.T cv rv (flA L))) (hi:i<7):loadP prog H 77 (.ptr (some ⟨id,0,3+i * 7⟩))=some (.agg ((row7 L i).map AVal.bool)):=by
 rw [load_eq,Fc.ty77,hg]
 have hl:(flA L).length=49:=flD_len
 rw [ldB_agg (by simp [hl];omega)]
 congr 2
 rw [show 3+i * 7=(i * 7)+1+1+1 by omega,List.drop_succ_cons,List.drop_succ_cons,List.drop_succ_cons]
 unfold row7
 rw [List.map_take,List.map_drop]
end Go.AM
namespace Go.AM
open Go.Proofs.Tryz
attribute [-go_sem] put_ne put_same
attribute [local go_sem ↓] put_if
abbrev z7:AVal:=.agg [.bool false,.bool false,.bool false,.bool false,.bool false,.bool false,.bool false]
def nof (L:Lac) (i:Nat):Bool:=!(row7 L i).any id
def nofB (L:Lac):Bool:=(List.range L.C.length).any (nof L)
theorem nofB_no {L:Lac} (hn:L.C.length≤7):nofB L=true ↔ ∃ p,p<L.C.length∧∀ k,k<L.C.length→fitB L p k=false:=by
 unfold nofB
 rw [List.any_eq_true]
 constructor
 ·rintro ⟨p,hp,q⟩
  rw [List.mem_range] at hp
  refine ⟨p,hp,(row7_any hn hp).1 ?_⟩
  unfold nof at q
  simpa using q
 ·rintro ⟨p,hp,q⟩
  refine ⟨p,List.mem_range.2 hp,?_⟩
  unfold nof
  rw [(row7_any hn hp).2 q];rfl
set_option maxHeartbeats 1000000 in
theorem run_idx7 {base id:Nat} {h:Heap} {L:Lac} {cv rv:AVal} (hg:h[id]?=some (dskB L.T cv rv (flA L))) (hn:L.C.length≤7) :
  callL prog raw base (.fn 130 [] []) [.slice (some ⟨id,0,3⟩) L.C.length 7,z7] h=some (.int .i64 (idx (nof L) (List.range L.C.length)),h):=by
 have hid:=lt_of_get hg
 obtain ⟨l,el⟩:∃ l,l=List.range L.C.length:=⟨_,rfl⟩
 have ll:l.length=L.C.length:=by rw [el,List.length_range]
 rw [← el]
 obtain ⟨G,eG⟩:∃ G,G=h++[⟨.cells [.bool false,.bool false,.bool false,.bool false,.bool false,.bool false,.bool false] 77 false false,0⟩]:=⟨_,rfl⟩
 have xG:Ext h G:=by rw [eG];exact .app .refl
 have gz:G[h.length]?=some ⟨.cells [.bool false,.bool false,.bool false,.bool false,.bool false,.bool false,.bool false] 77 false false,0⟩:=by rw [eG];exact get_eq rfl
 have lz:loadP prog G 77 (.ptr (some ⟨h.length,0,0⟩))=some z7:=by rw [load_eq,Fc.ty77,gz];rfl
 have gd:=xG.get hg
 unfold z7
 unfold z7 at lz
 refine callL_run func130 rfl rfl ?_
 have hsp:=@Nat.succ_ne_zero;repeat' (first|simp (disch:=first|exact dq|fail) only [go_sem,↓reduceIte,hsp,← eG]|refine WP_drw ?_|refine cnd_intro (fun hsp=>?_) fun hsp=>?_)
 refine WP_count [(4,5),(8,18)] 0 L.C.length (Nat.zero_le _) (fun _ i fr H=>fr 8=.int .i64 (i:Int)∧H=G∧∀ x ∈ l.take i,nof L x=false) ?_ ?_ ?_
 ·exact ⟨by (simp (disch:=first|exact dq|fail) only [go_sem,↓reduceIte,Int.natCast_zero];first|done|rfl),rfl,fun x hx=>by simp at hx⟩
 ·rintro i fr H hi0 hi hA ⟨r8,rfl,hP⟩
  have q0:=hA 0 rfl
  have q3:=hA 3 rfl
  have q7:=hA 7 rfl
  try simp (disch:=first|exact dq|fail) only [go_sem,↓reduceIte] at q0 q3 q7
  have hlt:((i:Int)<(L.C.length:Int))=True:=eq_true (by omega)
  have ad:=Fc.as141 (id:=id) (v:=0) (f:=3) (m:=L.C.length) (k:=7) (i:=(i:Int)) (by omega) (by omega)
  rw [Int.toNat_natCast] at ad
  have lr:=ld_row (i:=i) gd (by omega)
  obtain ⟨a0,a1,a2,a3,a4,a5,a6,e7⟩:=list7 (row7_len (L:=L) (i:=i) (by omega))
  rw [e7] at lr
  simp only [List.map_cons,List.map_nil] at lr
  have hq:=eq7 (a0:=a0) (a1:=a1) (a2:=a2) (a3:=a3) (a4:=a4) (a5:=a5) (a6:=a6)
  have hli:l[i]'(by omega)=i:=by simp [el]
  have hnf:nof L i=!(a0 || a1 || a2 || a3 || a4 || a5 || a6):=by
   unfold nof
   rw [e7]
   simp [Bool.or_assoc]
  rw [← hnf] at hq
  cases c:nof L i with
  | true =>
   rw [c] at hq
   have hsp:=@Nat.succ_ne_zero;repeat' (first|simp (disch:=first|exact dq|fail) only [go_sem,↓reduceIte,hsp,r8,q0,q3,q7,hlt,lz,ad,lr,hq]|refine WP_drw ?_|refine cnd_intro (fun hsp=>?_) fun hsp=>?_)
   refine fI ?_ xG
   rw [idx_hit (nof L) (n:=i) (by omega) hP (by rw [hli];exact c)]
  | false =>
   rw [c] at hq
   have hsp:=@Nat.succ_ne_zero;repeat' (first|simp (disch:=first|exact dq|fail) only [go_sem,↓reduceIte,hsp,r8,q0,q3,q7,hlt,lz,ad,lr,hq]|refine WP_drw ?_|refine cnd_intro (fun hsp=>?_) fun hsp=>?_)
   exact ⟨agq,by omega,take_next (nof L) (by omega) hP (by rw [hli];exact c)⟩
 ·rintro fr H hA ⟨r8,rfl,hP⟩
  have q0:=hA 0 rfl
  have q3:=hA 3 rfl
  have q7:=hA 7 rfl
  try simp (disch:=first|exact dq|fail) only [go_sem,↓reduceIte] at q0 q3 q7
  have hlt:((L.C.length:Int)<(L.C.length:Int))=False:=eq_false (by omega)
  have hsp:=@Nat.succ_ne_zero;repeat' (first|simp (disch:=first|exact dq|fail) only [go_sem,↓reduceIte,hsp,r8,q0,q3,q7,hlt]|refine WP_drw ?_|refine cnd_intro (fun hsp=>?_) fun hsp=>?_)
  refine fI ?_ xG
  rw [← ll] at hP
  rw [idx_miss (nof L) hP]
theorem run_cont7 {base id:Nat} {h:Heap} {L:Lac} {cv rv:AVal} (hg:h[id]?=some (dskB L.T cv rv (flA L))) (hn:L.C.length≤7) :
  callL prog raw base (.fn 120 [] []) [.slice (some ⟨id,0,3⟩) L.C.length 7,z7] h=some (.bool (nofB L),h):=by
 have hid:=lt_of_get hg
 obtain ⟨G,eG⟩:∃ G,G=h++[⟨.cells [.bool false,.bool false,.bool false,.bool false,.bool false,.bool false,.bool false] 77 false false,0⟩]:=⟨_,rfl⟩
 have xG:Ext h G:=by rw [eG];exact .app .refl
 have gz:G[h.length]?=some ⟨.cells [.bool false,.bool false,.bool false,.bool false,.bool false,.bool false,.bool false] 77 false false,0⟩:=by rw [eG];exact get_eq rfl
 have lz:loadP prog G 77 (.ptr (some ⟨h.length,0,0⟩))=some z7:=by rw [load_eq,Fc.ty77,gz];rfl
 have hi:=fun base=>run_idx7 (base:=base) (xG.get hg) hn
 have h0:=idx_any (nof L) (List.range L.C.length)
 unfold z7 at lz hi ⊢
 refine callL_run func120 rfl rfl ?_
 have hsp:=@Nat.succ_ne_zero;repeat' (first|simp (disch:=first|exact dq|fail) only [go_sem,↓reduceIte,hsp,← eG,lz,hi]|refine WP_drw ?_|refine cnd_intro (fun hsp=>?_) fun hsp=>?_)
 refine fB ?_ xG
 unfold nofB
 by_cases h1:(List.range L.C.length).any (nof L)=true
 ·rw [h1];simpa using h0.2 h1
 ·have h2:¬ 0≤idx (nof L) (List.range L.C.length):=fun h=>h1 (h0.1 h)
  simp only [Bool.not_eq_true] at h1
  rw [h1];simpa using h2
end Go.AM
