/-
  Contracts: a table's error, a table at work.
-/
import Derived.Test.YtcemgempgbjbeaaGreatU18
set_option linter.unusedSimpArgs false
set_option linter.unusedVariables false
namespace Go.AM
open Go.Proofs.Tryz
attribute [-go_sem] put_ne put_same
attribute [local go_sem ↓] put_if
theorem run_yin {base:Nat} {h:Heap} {n lo hi:Int}:callL prog raw base (.fn 188 [] []) [.int .i64 n,.int .i64 lo,.int .i64 hi] h=some (.bool (decide (lo≤n∧n≤hi)),h):=by
 refine callL_run func188 rfl rfl ?_
 by_cases h1:lo≤n
 ·have t1:(n ≥ lo)=True:=eq_true h1
  have hsp:=@Nat.succ_ne_zero;repeat' (first|simp (disch:=first|exact dqb|fail) only [go_sem,↓reduceIte,hsp,t1]|refine WP_drw ?_|refine cnd_intro (fun hsp=>?_) fun hsp=>?_)
  refine fB ?_
  simp [h1]
 ·have t1:(n ≥ lo)=False:=eq_false h1
  have hsp:=@Nat.succ_ne_zero;repeat' (first|simp (disch:=first|exact dqb|fail) only [go_sem,↓reduceIte,hsp,t1]|refine WP_drw ?_|refine cnd_intro (fun hsp=>?_) fun hsp=>?_)
  refine fB ?_
  simp [h1]
attribute [go_sem] run_yin
theorem run_wit1 {base id:Nat} {h:Heap} {m n:Int} (hg:h[id]?=some ⟨.cells [.int .i64 m] 3 false false,0⟩):callL prog raw base (.fn 247 [] [.ptr (some ⟨id,0,0⟩)]) [.int .i64 n] h=some (.bool (decide (0≤n∧n≤m)),h):=by
 refine callL_run func247 rfl rfl ?_
 have hsp:=@Nat.succ_ne_zero;repeat' (first|simp (disch:=first|exact dqb|fail) only [go_sem,↓reduceIte,hsp,hg]|refine WP_drw ?_|refine cnd_intro (fun hsp=>?_) fun hsp=>?_)
 exact fB rfl
theorem run_within {base:Nat} {h:Heap} {m:Int} {s:Shd} (hs:shIn m s) (hm:0≤m∧m≤1000):callL prog raw base (.fn 191 [] []) [shV s,.int .i64 m] h=some (.bool true,h):=by
 obtain ⟨s0,s1,s2⟩:=s
 obtain ⟨h0,h1,h2⟩:=hs
 simp only at h0 h1 h2
 obtain ⟨G,eG⟩:∃ G,G=h++[⟨.cells [.int .i64 s0,.int .i64 s1,.int .i64 s2] 128 false false,0⟩]++[⟨.cells [.int .i64 m] 3 false false,0⟩]:=⟨_,rfl⟩
 have xG:Ext h G:=by rw [eG];exact .app (.app .refl)
 have g0:G[h.length]?=some ⟨.cells [.int .i64 s0,.int .i64 s1,.int .i64 s2] 128 false false,0⟩:=by rw [eG];exact get_app (get_eq rfl)
 have g1:G[h.length+1]?=some ⟨.cells [.int .i64 m] 3 false false,0⟩:=by rw [eG];exact get_eq (by simp)
 have hR:Rows encI G (.slice (some ⟨h.length,0,0⟩) 3 3) [s0,s1,s2]:=⟨by simp,.inr (.inr ⟨⟨h.length,0,0⟩,3,_,_,_,_,rfl,g0,rfl,by simp [encI],by simp⟩)⟩
 have hI:=hR.ints (fun x hx=>by
  simp only [List.mem_cons,List.not_mem_nil,or_false] at hx
  omega)
 have ev:=fun base=>every_YI (base:=base) (g:=.fn 247 [] [.ptr (some ⟨h.length+1,0,0⟩)]) (fun n=>decide (0≤n∧n≤m)) hI (fun base T x _=>run_wit1 (get_app g1)) ⟨rfl,rfl,rfl⟩
 rw [show ([s0,s1,s2].all fun n=>decide (0≤n∧n≤m))=true by simp;omega] at ev
 have sl:sliceA prog 128 (.ptr (some ⟨h.length,0,0⟩)) none none none=some (.slice (some ⟨h.length,0,0⟩) 3 3):=by
  simp [sliceA,Fc.ar128,optB,ARef.add]
 refine callL_run func191 rfl rfl ?_
 have hsp:=@Nat.succ_ne_zero;repeat' (first|simp (disch:=first|exact dqb|fail) only [go_sem,↓reduceIte,hsp,← eG,g0,sl,ev]|refine WP_drw ?_|refine cnd_intro (fun hsp=>?_) fun hsp=>?_)
 exact fB rfl xG
theorem run_yright {base:Nat} {h:Heap} {s:Shd} (hs:shIn 20 s):callL prog raw base (.fn 195 [] []) [.agg (enc3.cells s)] h=some (.bool true,h):=by
 have w:=fun base=>run_within (base:=base) (h:=h++[⟨.cells [.int .i64 s.1,.int .i64 s.2.1,.int .i64 s.2.2] 128 false false,0⟩]) hs (by omega)
 simp only [enc3]
 refine callL_run func195 rfl rfl ?_
 have hsp:=@Nat.succ_ne_zero;repeat' (first|simp (disch:=first|exact dqb|fail) only [go_sem,↓reduceIte,hsp,w]|refine WP_drw ?_|refine cnd_intro (fun hsp=>?_) fun hsp=>?_)
 exact fB rfl
theorem run_yck2 {base:Nat} {h:Heap} {s:Shd} (hs:shIn 3 s):callL prog raw base (.fn 193 [] []) [.agg (enc3.cells s)] h=some (.bool true,h):=by
 have w:=fun base=>run_within (base:=base) (h:=h++[⟨.cells [.int .i64 s.1,.int .i64 s.2.1,.int .i64 s.2.2] 133 false false,0⟩]) hs (by omega)
 simp only [enc3]
 refine callL_run func193 rfl rfl ?_
 have hsp:=@Nat.succ_ne_zero;repeat' (first|simp (disch:=first|exact dqb|fail) only [go_sem,↓reduceIte,hsp,w]|refine WP_drw ?_|refine cnd_intro (fun hsp=>?_) fun hsp=>?_)
 exact fB rfl
theorem run_yck1 {base:Nat} {h:Heap} {x:Shd × Int} (hs:shIn 4 x.1) (hf:1≤x.2∧x.2≤400):callL prog raw base (.fn 190 [] []) [.agg (encE.cells x)] h=some (.bool true,h):=by
 have w:=fun base=>run_within (base:=base) (h:=h++[⟨.cells [.int .i64 x.1.1,.int .i64 x.1.2.1,.int .i64 x.1.2.2,.int .i64 x.2] 131 false false,0⟩]) hs (by omega)
 have t:=decide_eq_true hf
 simp only [encE]
 refine callL_run func190 rfl rfl ?_
 have hsp:=@Nat.succ_ne_zero;repeat' (first|simp (disch:=first|exact dqb|fail) only [go_sem,↓reduceIte,hsp,w,t]|refine WP_drw ?_|refine cnd_intro (fun hsp=>?_) fun hsp=>?_)
 exact fB rfl
def TblAt (h:Heap) (v:AVal) (T:EyT):Prop:=∃ ev lv pv,v=.agg [ev,lv,pv]∧Rows encE h ev T.E∧Rows enc3 h lv T.L∧Rows enc3 h pv T.P
theorem TblAt.ext {h H:Heap} {v:AVal} {T:EyT} (x:TblAt h v T) (e:Ext h H):TblAt H v T:=by
 obtain ⟨ev,lv,pv,rfl,a,b,c⟩:=x
 exact ⟨ev,lv,pv,rfl,a.ext e,b.ext e,c.ext e⟩
abbrev tbB (ev lv pv:AVal):ABlk:=⟨.cells [ev,lv,pv] 27 false false,0⟩
theorem all_true {α:Type} {l:List α}:(l.all fun _=>true)=true:=by simp
set_option maxHeartbeats 1000000 in
theorem run_yCheck {base:Nat} {h:Heap} {v:AVal} {T:EyT} (hT:TblAt h v T) (ok:TOk T):callL prog raw base (.fn 124 [] []) [v] h=some (.int .i64 0,h):=by
 obtain ⟨ev,lv,pv,rfl,hE,hL,hP⟩:=hT
 have o1:=hE.one
 have o2:=hL.one
 have o3:=hP.one
 obtain ⟨G,eG⟩:∃ G,G=h++[tbB ev lv pv]:=⟨_,rfl⟩
 have x0:Ext h G:=by rw [eG];exact .app .refl
 have g0:G[h.length]?=some (tbB ev lv pv):=by rw [eG];exact get_eq rfl
 have iE:=hE.ext x0
 have iL:=hL.ext x0
 have iP:=hP.ext x0
 have n1:=iE.len (P:=prog) Fc.el23
 have n2:=iL.len (P:=prog) Fc.el24
 have n3:=iP.len (P:=prog) Fc.el25
 have b1:=ok.nE
 have b2:=ok.nL
 have b3:=ok.nP
 have t1:decide (1≤(T.E.length:Int)∧(T.E.length:Int)≤6)=true:=decide_eq_true (by omega)
 have t2:decide (1≤(T.L.length:Int)∧(T.L.length:Int)≤4)=true:=decide_eq_true (by omega)
 have t3:((T.P.length:Int) > 9)=False:=eq_false (by omega)
 have e1:=fun base=>every_YE (base:=base) (g:=.fn 190 [] []) (fun _=>true) iE (fun base Z x hx=>run_yck1 (ok.E x hx).1 (ok.E x hx).2) ⟨rfl,rfl,rfl⟩
 have e2:=fun base=>every_YL (base:=base) (g:=.fn 193 [] []) (fun _=>true) iL (fun base Z x hx=>run_yck2 (ok.L x hx)) ⟨rfl,rfl,rfl⟩
 have e3:=fun base=>every_YS (base:=base) (g:=.fn 195 [] []) (fun _=>true) iP (fun base Z x hx=>run_yright (ok.P x hx)) ⟨rfl,rfl,rfl⟩
 rw [all_true] at e1 e2 e3
 refine callL_run func124 rfl rfl ?_
 have hsp:=@Nat.succ_ne_zero;repeat' (first|simp (disch:=first|exact dqb|fail) only [go_sem,↓reduceIte,hsp,← eG,g0,n1,n2,n3,t1,t2,t3,e1,e2,e3]|refine WP_drw ?_|refine cnd_intro (fun hsp=>?_) fun hsp=>?_)
 exact fI rfl x0
theorem run_yopened {base:Nat} {h:Heap} {v:AVal} {T:EyT} (hb:base≤h.length) (hT:TblAt h v T) (ok:TOk T) :
  Ret prog raw base (.fn 45 [] []) [v] h (fun w H=>Ext h H∧∃ id,w=.tuple [.ptr (some ⟨id,0,0⟩),.int .i64 0]∧EDk H id T∧h.length≤id):=by
 obtain ⟨ev,lv,pv,rfl,hE,hL,hP⟩:=hT
 have o1:=hE.one
 have o2:=hL.one
 have o3:=hP.one
 have hc:=fun base=>run_yCheck (base:=base) (h:=h++[tbB ev lv pv]) (v:=.agg [ev,lv,pv]) (T:=T) ⟨ev,lv,pv,rfl,hE.app,hL.app,hP.app⟩ ok
 refine ret_raw func45 rfl (by kernel_rfl) ?_
 have hsp:=@Nat.succ_ne_zero;repeat' (first|simp (disch:=first|exact dqb|fail) only [go_sem,↓reduceIte,hsp,hc]|refine WP_drw ?_|refine cnd_intro (fun hsp=>?_) fun hsp=>?_)
 exact ⟨.app (.app .refl),h.length+1,rfl,⟨ev,lv,pv,get_eq (by simp),hE.app.app,hL.app.app,hP.app.app⟩,by omega⟩
end Go.AM
namespace Go.AM
open Go.Proofs.Tryz
attribute [-go_sem] put_ne put_same
attribute [local go_sem ↓] put_if
abbrev pE (id:Nat):ABlk:=⟨.cells [.ptr (some ⟨id,0,0⟩)] 137 false false,0⟩
theorem run_looks {base id:Nat} {h:Heap}:Ret prog raw base (.fn 284 [] []) [.ptr (some ⟨id,0,0⟩)] h (fun w H=>w=.fn 293 [] [.ptr (some ⟨h.length,0,0⟩)]∧H=h++[pE id]):=by
 refine ret_raw func284 rfl (by kernel_rfl) ?_
 have hsp:=@Nat.succ_ne_zero;repeat' (first|simp (disch:=first|exact dqb|fail) only [go_sem,↓reduceIte,hsp]|refine WP_drw ?_|refine cnd_intro (fun hsp=>?_) fun hsp=>?_)
def lkN (T:EyT):Nat:=T.E.length * T.L.length
def lkV (T:EyT) (j:Nat):AVal:=.agg [.int .i64 ((j / T.L.length:Nat):Int),.int .i64 ((j % T.L.length:Nat):Int)]
def XY (T:EyT) (j:Nat) (a:List AVal) (_:Heap):Prop:=a=[lkV T j]
def prY (x:ABlk):Prop:=∀ (l:List (Int × Int)) ver,x ≠ rowE encS 376 l ver
theorem lk_div {n i k:Nat} (h:k<n):(i * n+k) / n=i∧(i * n+k) % n=k:=by
 refine ⟨?_,?_⟩
 ·rw [Nat.mul_comm,Nat.mul_add_div (by omega),Nat.div_eq_of_lt h];rfl
 ·rw [Nat.mul_comm,Nat.mul_add_mod,Nat.mod_eq_of_lt h]
set_option maxHeartbeats 1000000 in
theorem looks_yields {T:EyT} {base Lx db id:Nat} {I:Nat→Heap→Prop} (ok:TOk T) (hI:∀ j H,I j H→EDk H id T∧H[db]?=some (pE id)) :
  YieldsX prog raw base Lx (.fn 293 [] [.ptr (some ⟨db,0,0⟩)]) (lkN T) (XY T) prY I:=by
 intro J S H0 hL hJI happ hcb h0
 have nE:=ok.nE
 have nL:=ok.nL
 have hat:∀ j H,J j H→∃ ev lv pv,H[id]?=some (eyB ev lv pv)∧Rows encE H ev T.E∧Rows enc3 H lv T.L∧H[db]?=some (pE id):=fun j H q=>by
  obtain ⟨⟨ev,lv,pv,g,a,b,_⟩,c⟩:=hI j H (hJI j H q).1
  exact ⟨ev,lv,pv,g,a,b,c⟩
 suffices hh:Ret prog raw base (.fn 293 [] [.ptr (some ⟨db,0,0⟩)]) [.yld Lx] H0 (fun w H'=>J (lkN T) H' ∨ S H') by
  obtain ⟨w,H',e,k⟩:=hh
  exact ⟨w,H',e,k⟩
 obtain ⟨ev,lv,pv,g,hE,_,gb⟩:=hat 0 H0 h0
 have o1:=hE.one
 have n1:=hE.len (P:=prog) Fc.el23
 refine ret_raw func293 rfl (by kernel_rfl) ?_
 have hsp:=@Nat.succ_ne_zero;repeat' (first|simp (disch:=first|exact dqb|fail) only [go_sem,↓reduceIte,hsp,gb,g,n1]|refine WP_drw ?_|refine cnd_intro (fun hsp=>?_) fun hsp=>?_)
 refine WP_count [(3,4),(11,30)] 0 T.E.length (Nat.zero_le _) (fun _ i fr h'=>fr 11=.int .i64 (i:Int)∧J (i * T.L.length) h') ?_ ?_ ?_
 ·exact ⟨by (simp (disch:=first|exact dqb|fail) only [go_sem,↓reduceIte,Int.natCast_zero];first|done|rfl),by rw [Nat.zero_mul];exact h0⟩
 ·rintro i fr H hi0 hi hA ⟨r11,hj⟩
  have p0:=hA 0 rfl
  have p1:=hA 1 rfl
  have p10:=hA 10 rfl
  try simp (disch:=first|exact dqb|fail) only [go_sem,↓reduceIte] at p0 p1 p10
  have hlt:((i:Int)<(T.E.length:Int))=True:=eq_true (by omega)
  obtain ⟨ev2,lv2,pv2,g2,_,hL2,gb2⟩:=hat _ H hj
  have o2:=hL2.one
  have n2:=hL2.len (P:=prog) Fc.el24
  have hsp:=@Nat.succ_ne_zero;repeat' (first|simp (disch:=first|exact dqb|fail) only [go_sem,↓reduceIte,hsp,r11,p0,p1,p10,hlt,gb2,g2,n2]|refine WP_drw ?_|refine cnd_intro (fun hsp=>?_) fun hsp=>?_)
  refine WP_count [(4,4),(20,29)] 0 T.L.length (Nat.zero_le _) (fun _ k fr h'=>fr 20=.int .i64 (k:Int)∧J (i * T.L.length+k) h') ?_ ?_ ?_
  ·exact ⟨by (simp (disch:=first|exact dqb|fail) only [go_sem,↓reduceIte,Int.natCast_zero];first|done|rfl),hj⟩
  ·rintro k fr2 H2 hk0 hk hB ⟨r20,hj2⟩
   have d0:=hB 0 rfl
   have d1:=hB 1 rfl
   have d3:=hB 3 rfl
   have d10:=hB 10 rfl
   have d11:=hB 11 rfl
   have d19:=hB 19 rfl
   try simp (disch:=first|exact dqb|fail) only [go_sem,↓reduceIte,p0,p1,p10] at d0 d1 d3 d10 d11 d19
   have hlt2:((k:Int)<(T.L.length:Int))=True:=eq_true (by omega)
   have hv:lkV T (i * T.L.length+k)=.agg [.int .i64 (i:Int),.int .i64 (k:Int)]:=by
    unfold lkV
    rw [(lk_div hk).1,(lk_div hk).2]
   have hjn:i * T.L.length+k<lkN T:=by
    unfold lkN
    have:(i+1) * T.L.length≤T.E.length * T.L.length:=Nat.mul_le_mul_right _ (by omega)
    rw [Nat.succ_mul] at this
    omega
   obtain ⟨b,H',e,_,_,y1,y2⟩:=hcb _ [lkV T (i * T.L.length+k)] H2 hjn rfl hj2
   rw [hv] at e
   cases b with
   | true =>
    have hsp:=@Nat.succ_ne_zero;repeat' (first|simp (disch:=first|exact dqb|fail) only [go_sem,↓reduceIte,hsp,d0,d1,d3,d10,d11,d19,r11,r20,hlt2,e]|refine WP_drw ?_|refine cnd_intro (fun hsp=>?_) fun hsp=>?_)
    exact ⟨agq,by omega,y1 rfl⟩
   | false =>
    have hsp:=@Nat.succ_ne_zero;repeat' (first|simp (disch:=first|exact dqb|fail) only [go_sem,↓reduceIte,hsp,d0,d1,d3,d10,d11,d19,r11,r20,hlt2,e]|refine WP_drw ?_|refine cnd_intro (fun hsp=>?_) fun hsp=>?_)
    exact .inr (y2 rfl)
  ·rintro fr2 H2 hB ⟨r20,hj2⟩
   have d0:=hB 0 rfl
   have d1:=hB 1 rfl
   have d3:=hB 3 rfl
   have d10:=hB 10 rfl
   have d11:=hB 11 rfl
   have d19:=hB 19 rfl
   try simp (disch:=first|exact dqb|fail) only [go_sem,↓reduceIte,p0,p1,p10] at d0 d1 d3 d10 d11 d19
   have hlt2:((T.L.length:Int)<(T.L.length:Int))=False:=eq_false (by omega)
   have hsp:=@Nat.succ_ne_zero;repeat' (first|simp (disch:=first|exact dqb|fail) only [go_sem,↓reduceIte,hsp,d0,d1,d3,d10,d11,d19,r11,r20,hlt2]|refine WP_drw ?_|refine cnd_intro (fun hsp=>?_) fun hsp=>?_)
   exact ⟨agq,by omega,by rw [Nat.succ_mul];exact hj2⟩
 ·rintro fr H hA ⟨r11,hj⟩
  have p0:=hA 0 rfl
  have p1:=hA 1 rfl
  have p10:=hA 10 rfl
  try simp (disch:=first|exact dqb|fail) only [go_sem,↓reduceIte] at p0 p1 p10
  have hlt:((T.E.length:Int)<(T.E.length:Int))=False:=eq_false (by omega)
  have hsp:=@Nat.succ_ne_zero;repeat' (first|simp (disch:=first|exact dqb|fail) only [go_sem,↓reduceIte,hsp,r11,p0,p1,p10,hlt]|refine WP_drw ?_|refine cnd_intro (fun hsp=>?_) fun hsp=>?_)
  exact .inl hj
end Go.AM
namespace Go.AM
open Go.Proofs.Tryz
attribute [-go_sem] put_ne put_same
attribute [local go_sem ↓] put_if
def telB (T:EyT) (a b:Shd) (j:Nat):Bool:=decide ((T.E.getD (j / T.L.length) ((0,0,0),0)).2≤seeD (T.E.getD (j / T.L.length) ((0,0,0),0)).1 (T.L.getD (j % T.L.length) (0,0,0)) a b)
def apJ (T:EyT) (a b:Shd) (n:Nat):List (Int × Int):=((List.range n).filter (telB T a b)).map fun j=>(((j / T.L.length:Nat):Int),((j % T.L.length:Nat):Int))
def apL (T:EyT) (a b:Shd):List (Int × Int):=if a=b then [] else apJ T a b (lkN T)
theorem apJ_succ {T:EyT} {a b:Shd} {n:Nat}:apJ T a b (n+1)=apJ T a b n++if telB T a b n=true then [(((n / T.L.length:Nat):Int),((n % T.L.length:Nat):Int))] else []:=by
 unfold apJ
 rw [List.range_succ,List.filter_append,List.map_append]
 cases h:telB T a b n<;>simp [h]
theorem apJ_len {T:EyT} {a b:Shd} {n:Nat}:(apJ T a b n).length≤n:=by
 unfold apJ
 rw [List.length_map]
 exact Nat.le_trans (List.length_filter_le _ _) (by simp)
theorem lk_at {T:EyT} {j:Nat} (hj:j<lkN T) (hL:1≤T.L.length):j / T.L.length<T.E.length∧j % T.L.length<T.L.length:=by
 unfold lkN at hj
 exact ⟨Nat.div_lt_of_lt_mul (by rw [Nat.mul_comm];exact hj),Nat.mod_lt _ hL⟩
abbrev lkB (v:AVal):ABlk:=⟨.cells [v] 345 false false,0⟩
abbrev shB (s:Shd):ABlk:=⟨.cells [.int .i64 s.1,.int .i64 s.2.1,.int .i64 s.2.2] 128 false false,0⟩
theorem sh_eq' {a b:Shd}:binA prog .eql 128 (.agg [.int .i64 a.1,.int .i64 a.2.1,.int .i64 a.2.2]) (.agg [.int .i64 b.1,.int .i64 b.2.1,.int .i64 b.2.2])=some (.bool (decide (a=b))):=sh_eq
set_option maxHeartbeats 1000000 in
theorem run_apart {base:Nat} {h:Heap} {id:Nat} {T:EyT} {a b:Shd} (hb:base≤h.length) (hD:EDk h id T) (ok:TOk T) (ha:shIn 20 a) (hs:shIn 20 b) :
  Ret prog raw base (.fn 252 [] []) [.ptr (some ⟨id,0,0⟩),shV a,shV b] h (fun w H=>Ext h H∧Own encS 376 h.length H w (apL T a b)):=by
 have nE:=ok.nE
 have nL:=ok.nL
 obtain ⟨G,eG⟩:∃ G,G=h++[pE id]++[shB a]++[shB b]:=⟨_,rfl⟩
 have xG:Ext h G:=by rw [eG];exact .app (.app (.app .refl))
 have lG:G.length=h.length+3:=by rw [eG];simp
 have g0:G[h.length]?=some (pE id):=by rw [eG];exact get_app (get_app (get_eq rfl))
 have g1:G[h.length+1]?=some (shB a):=by rw [eG];exact get_app (get_eq (by simp))
 have g2:G[h.length+2]?=some (shB b):=by rw [eG];exact get_eq (by simp)
 unfold apL
 by_cases hab:a=b
 ·rw [if_pos hab]
  have t1:decide (a=b)=true:=decide_eq_true hab
  refine ret_raw func252 rfl (by kernel_rfl) ?_
  have hsp:=@Nat.succ_ne_zero;repeat' (first|simp (disch:=first|exact dqb|fail) only [go_sem,↓reduceIte,hsp,← eG,g0,g1,g2,sh_eq',t1]|refine WP_drw ?_|refine cnd_intro (fun hsp=>?_) fun hsp=>?_)
  exact ⟨xG,Own.nil⟩
 ·rw [if_neg hab]
  have t1:decide (a=b)=false:=decide_eq_false hab
  obtain ⟨G2,eG2⟩:∃ G2,G2=G++[lkB (.slice none 0 0)]:=⟨_,rfl⟩
  have xG2:Ext G G2:=by rw [eG2];exact .app .refl
  have lG2:G2.length=h.length+4:=by rw [eG2];simp [lG]
  have k3:G2[G.length]?=some (lkB (.slice none 0 0)):=by rw [eG2];exact get_eq rfl
  have k0:=xG2.get g0
  obtain ⟨w3,G3,e3,rfl,eG3⟩:=run_looks (base:=base) (id:=id) (h:=G2)
  have x3:Ext G2 G3:=by rw [eG3];exact .app .refl
  have l3:G3.length=h.length+5:=by rw [eG3];simp [lG2]
  have gdb:G3[G2.length]?=some (pE id):=by rw [eG3];exact get_eq rfl
  refine ret_raw func252 rfl (by kernel_rfl) ?_
  have hsp:=@Nat.succ_ne_zero;repeat' (first|simp (disch:=first|exact dqb|fail) only [go_sem,↓reduceIte,hsp,← eG,g0,g1,g2,sh_eq',t1,← eG2,k0,e3]|refine WP_drw ?_|refine cnd_intro (fun hsp=>?_) fun hsp=>?_)
  refine WP_rangeX (by simp (disch:=first|exact dqb|fail) only [go_sem,↓reduceIte]) (N:=lkN T) (X:=XY T) (pr:=prY) (fun j H=>G3.length+1≤H.length∧Ext G H∧H[G2.length]?=some (pE id)∧∃ v,H[G.length]?=some (lkB v)∧Own encS 376 (G3.length+1) H v (apJ T a b j)) (fun _ _=>False)
   (looks_yields (id:=id) (db:=G2.length) ok (fun j H q=>⟨hD.ext (xG.trans q.2.1),q.2.2.1⟩)) ?_ ?_ ?_ ?_ ?_ ?_ ?_ ?_
  ·rintro j a H rfl;rfl
  ·rintro j H T ⟨a,b,c,v,d,e⟩
   exact ⟨by simp;omega,b.trans (.app .refl),get_app c,v,get_app d,e.ext (.app .refl)⟩
  ·rintro j H B ⟨a,b,c,v,d,e⟩
   exact ⟨by simpa using a,b.set (by omega),by rw [List.getElem?_set_ne (by omega)];exact c,v,by rw [List.getElem?_set_ne (by omega)];exact d,e.set (by omega)⟩
  ·intro e H B q;exact q
  ·exact ⟨by simp,(xG2.trans x3).trans (.app .refl),get_app gdb,.slice none 0 0,(x3.trans (.app .refl)).get k3,Own.nil⟩
  ·rintro j _ H B1 B2 hj rfl ⟨hI1,hI2,hI3,u,hI4,hI5⟩ hHl hB
   obtain ⟨hi,hk⟩:=lk_at hj nL.1
   obtain ⟨i,ei⟩:∃ i,i=j / T.L.length:=⟨_,rfl⟩
   obtain ⟨k,ek⟩:∃ k,k=j % T.L.length:=⟨_,rfl⟩
   rw [← ei] at hi
   rw [← ek] at hk
   have hv:lkV T j=.agg [.int .i64 (i:Int),.int .i64 (k:Int)]:=by unfold lkV;rw [← ei,← ek]
   rw [hv]
   have lH:=lt_of_get hB
   obtain ⟨K0,eK0⟩:∃ K0,K0=H.set G3.length B2:=⟨_,rfl⟩
   have lK0:K0.length=H.length:=by rw [eK0,List.length_set]
   obtain ⟨K,eK⟩:∃ K,K=K0++[(⟨.cells [.int .i64 (i:Int),.int .i64 (k:Int)] 376 false false,0⟩:ABlk)]:=⟨_,rfl⟩
   have x0K:Ext K0 K:=by rw [eK];exact .app .refl
   have lK:K.length=H.length+1:=by rw [eK];simp [lK0]
   have xK:Ext G K:=by rw [eK,eK0];exact (hI2.set (by omega)).app
   have gKB:K[G3.length]?=some B2:=x0K.get (by rw [eK0,List.getElem?_set_self (by omega)])
   have gKl:K[H.length]?=some ⟨.cells [.int .i64 (i:Int),.int .i64 (k:Int)] 376 false false,0⟩:=by rw [eK];exact get_eq lK0.symm
   have gK0:=xK.get g0
   have gK1:=xK.get g1
   have gK2:=xK.get g2
   have gKd:K[G2.length]?=some (pE id):=x0K.get (by rw [eK0,List.getElem?_set_ne (by omega)];exact hI3)
   have gKo:K[G.length]?=some (lkB u):=x0K.get (by rw [eK0,List.getElem?_set_ne (by omega)];exact hI4)
   have oK:Own encS 376 (G3.length+1) K u (apJ T a b j):=by
    have:Own encS 376 (G3.length+1) K0 u (apJ T a b j):=by rw [eK0];exact hI5.set (by omega)
    exact this.ext x0K
   have hDK:=hD.ext (xG.trans xK)
   have sc:=fun base=>run_sees (base:=base) hDK ok hi hk ha hs
   obtain ⟨ev,lv,pv,gi,hE,_,_⟩:=hDK
   have aE:=hE.addr (P:=prog) (i:=(i:Int)) Fc.el23 Fc.ar23 (by omega) (by omega)
   rw [Int.toNat_natCast] at aE
   have fE:fieldAddrA prog 131 (elAdr ev encE.z i 0) 1=some (elAdr ev encE.z i 3):=elAdr_field (P:=prog) (o:=0) (off:=3) (q:=false) (n:=1) hE hi (by kernel_rfl) (by decide)
   have lE:loadP prog K 3 (elAdr ev encE.z i 3)=some (.int .i64 T.E[i].2):=hE.cell Fc.ty3 (List.getElem?_eq_getElem hi) rfl
   have ou:=oK.one
   have oe:=hE.one
   have hlen:=apJ_len (T:=T) (a:=a) (b:=b) (n:=j)
   have hjn:j≤24:=by
    have:T.E.length * T.L.length≤6 * 4:=Nat.mul_le_mul (by omega) (by omega)
    unfold lkN at hj
    omega
   have ht:telB T a b j=decide (T.E[i].2≤seeD T.E[i].1 T.L[k] a b):=by
    unfold telB
    rw [← ei,← ek,getD_at hi,getD_at hk]
   have hkeep:∀ (q:Nat) (x:ABlk),G3.length+1≤q→H[q]?=some x→K[q]?=some x:=fun q x hq hx=>x0K.get (by rw [eK0,List.getElem?_set_ne (by omega)];exact hx)
   by_cases c:T.E[i].2≤seeD T.E[i].1 T.L[k] a b
   ·have t2:(seeD T.E[i].1 T.L[k] a b ≥ T.E[i].2)=True:=eq_true c
    have htt:telB T a b j=true:=by rw [ht,decide_eq_true c]
    obtain ⟨K2,eK2⟩:∃ K2,K2=K++[rowE encS 376 [((i:Int),(k:Int))] 0]:=⟨_,rfl⟩
    have xK2:Ext K K2:=by rw [eK2];exact .app .refl
    have lK2:K2.length=K.length+1:=by rw [eK2];simp
    have bsW:∀ {lit:Bool},bsA prog lit K 345 1 [(0,.agg [.int .i64 (i:Int),.int .i64 (k:Int)])]=some (.slice (some ⟨K.length,0,0⟩) 1 1,K2):=fun {lit}=>by
     rw [eK2]
     simp [bsA,rowOf,Fc.el345,fillA,repCells,AVal.isN,AVal.cells,splice,rowE,flat,encS]
    obtain ⟨v',h',e1,o1,l1,a4,one1,kp⟩:=(oK.ext xK2).appendRX (P:=prog) (x:=.slice (some ⟨K.length,0,0⟩) 1 1) (m:=[((i:Int),(k:Int))]) (base:=base) (t:=345) (Rows.own (by rw [eK2];exact get_eq rfl) rfl (by simp)) Fc.el345 encS_sc (by omega) (by omega) (by simp) (by simp;omega)
    have kp:KeepO encS 376 K2 h':=kp
    have go':=kp.box (xK2.get gKo)
    have gd':=kp.box (xK2.get gKd)
    have gB':h'[G3.length]?=some B2:=by
     have:=a4 (K2.take (G3.length+1)) (by simp;omega) ⟨K2.drop (G3.length+1),(List.take_append_drop _ _).symm⟩
     refine this.get ?_
     rw [List.getElem?_take,if_pos (by omega)];exact xK2.get gKB
    have hsp:=@Nat.succ_ne_zero;repeat' (first|simp (disch:=first|exact dqb|fail) only [go_sem,↓reduceIte,hsp,hB,← eK0,← eK,gK0,gKl,gK1,gK2,sc,gi,aE,fE,lE,t2,gKo,bsW,e1,go']|refine WP_drw ?_|refine cnd_intro (fun hsp=>?_) fun hsp=>?_)
    refine ⟨gB',fun q x hq hp hx=>?_,by omega,.inl ⟨by omega,(a4 G (by omega) (xK.trans xK2)).set (Nat.le_refl _),gd',v',rfl,?_⟩⟩
    ·rw [List.getElem?_set_ne (by omega)]
     exact kp q x (xK2.get (hkeep q x hq hx)) hp
    ·rw [apJ_succ,htt,if_pos rfl,← ei,← ek]
     exact o1.setBox go'
   ·have t2:(seeD T.E[i].1 T.L[k] a b ≥ T.E[i].2)=False:=eq_false c
    have htt:telB T a b j=false:=by rw [ht,decide_eq_false c]
    have hsp:=@Nat.succ_ne_zero;repeat' (first|simp (disch:=first|exact dqb|fail) only [go_sem,↓reduceIte,hsp,hB,← eK0,← eK,gK0,gKl,gK1,gK2,sc,gi,aE,fE,lE,t2]|refine WP_drw ?_|refine cnd_intro (fun hsp=>?_) fun hsp=>?_)
    exact ⟨gKB,fun q x hq hp hx=>hkeep q x hq hx,by omega,.inl ⟨by omega,xK,gKd,u,gKo,by rw [apJ_succ,htt];simpa using oK⟩⟩
  ·rintro H ⟨hI1,hI2,hI3,u,hI4,hI5⟩
   have ou:=hI5.one
   have hsp:=@Nat.succ_ne_zero;repeat' (first|simp (disch:=first|exact dqb|fail) only [go_sem,↓reduceIte,hsp,hI4]|refine WP_drw ?_|refine cnd_intro (fun hsp=>?_) fun hsp=>?_)
   exact ⟨xG.trans hI2,hI5.low (by omega)⟩
  ·intro e H _ q;exact q.elim
theorem run_alike {base:Nat} {h:Heap} {id:Nat} {T:EyT} {a b:Shd} (hD:EDk h id T) (ok:TOk T) (ha:shIn 20 a) (hs:shIn 20 b) :
  callL prog raw base (.fn 197 [] []) [.ptr (some ⟨id,0,0⟩),shV a,shV b] h=some (.bool (apL T a b).isEmpty,h):=by
 obtain ⟨G,eG⟩:∃ G,G=h++[shB a]++[shB b]:=⟨_,rfl⟩
 have xG:Ext h G:=by rw [eG];exact .app (.app .refl)
 have lG:G.length=h.length+2:=by rw [eG];simp
 have g1:G[h.length]?=some (shB a):=by rw [eG];exact get_app (get_eq rfl)
 have g2:G[h.length+1]?=some (shB b):=by rw [eG];exact get_eq (by simp)
 obtain ⟨w,H,e1,x1,o1⟩:=run_apart (base:=h.length) (h:=G) (by omega) (hD.ext xG) ok ha hs
 have ow:=o1.one
 have hlen:(apL T a b).length≤24:=by
  unfold apL
  split
  ·simp
  ·have:=apJ_len (T:=T) (a:=a) (b:=b) (n:=lkN T)
   have h2:T.E.length * T.L.length≤6 * 4:=Nat.mul_le_mul ok.nE.2 ok.nL.2
   exact Nat.le_trans this h2
 have hl:=own_len o1 Fc.el345 (by omega)
 have hz:decide (((apL T a b).length:Int)=0)=(apL T a b).isEmpty:=by
  cases apL T a b with
  | nil=>rfl
  | cons x l=>simp;omega
 refine callL_run func197 rfl rfl ?_
 have hsp:=@Nat.succ_ne_zero;repeat' (first|simp (disch:=first|exact dqb|fail) only [go_sem,↓reduceIte,hsp,← eG,g1,g2,e1,hl]|refine WP_drw ?_|refine cnd_intro (fun hsp=>?_) fun hsp=>?_)
 exact fB hz (xG.trans x1)
def mtB (T:EyT) (i k:Nat):Bool:=(apL T (T.P.getD i (0,0,0)) (T.P.getD k (0,0,0))).isEmpty
theorem run_match {base:Nat} {h:Heap} {id:Nat} {T:EyT} {i k:Nat} (hD:EDk h id T) (ok:TOk T) (hi:i<T.P.length) (hk:k<T.P.length) :
  callL prog raw base (.fn 128 [] []) [.ptr (some ⟨id,0,0⟩),.int .i64 (i:Int),.int .i64 (k:Int)] h=some (.bool (mtB T i k),h):=by
 have hr:=fun base=>run_alike (base:=base) hD ok (ok.P _ (List.getElem_mem hi)) (ok.P _ (List.getElem_mem hk))
 obtain ⟨ev,lv,pv,g,_,_,hP⟩:=hD
 have op:=hP.one
 have a1:=hP.addr (P:=prog) (i:=(i:Int)) Fc.el25 Fc.ar25 (by omega) (by omega)
 have a2:=hP.addr (P:=prog) (i:=(k:Int)) Fc.el25 Fc.ar25 (by omega) (by omega)
 rw [Int.toNat_natCast] at a1 a2
 have l1:loadP prog h 128 (elAdr pv enc3.z i 0)=some (shV T.P[i]):=hP.load Fc.ty128 (List.getElem?_eq_getElem hi)
 have l2:loadP prog h 128 (elAdr pv enc3.z k 0)=some (shV T.P[k]):=hP.load Fc.ty128 (List.getElem?_eq_getElem hk)
 unfold mtB
 rw [getD_at hi,getD_at hk]
 refine callL_run func128 rfl rfl ?_
 have hsp:=@Nat.succ_ne_zero;repeat' (first|simp (disch:=first|exact dqb|fail) only [go_sem,↓reduceIte,hsp,g,a1,a2,l1,l2,hr]|refine WP_drw ?_|refine cnd_intro (fun hsp=>?_) fun hsp=>?_)
 exact fB rfl
end Go.AM
namespace Go.AM
open Go.Proofs.Tryz
attribute [-go_sem] put_ne put_same
attribute [local go_sem ↓] put_if
def twoT:EyT:=⟨[((2,1,0),6),((0,1,3),6)],[(1,1,1),(2,0,1)],[(5,5,5),(6,6,5),(8,5,5),(5,5,7),(6,7,5),(5,5,6)]⟩
instance {m:Int} {s:Shd}:Decidable (shIn m s):=by unfold shIn;infer_instance
theorem two_ok:TOk twoT:=⟨by decide,by decide,by decide,by decide,by decide,by decide⟩
theorem bd3S {x y z:Int}:buildA prog 128 [(0,.int .i64 x),(1,.int .i64 y),(2,.int .i64 z)]=some (.agg [.int .i64 x,.int .i64 y,.int .i64 z]):=by kernel_rfl
theorem bd3L {x y z:Int}:buildA prog 133 [(0,.int .i64 x),(1,.int .i64 y),(2,.int .i64 z)]=some (.agg [.int .i64 x,.int .i64 y,.int .i64 z]):=by kernel_rfl
theorem run_Two {base:Nat} {h:Heap} (hb:base≤h.length):Ret prog raw base (.fn 53 [] []) [] h (fun w H=>Ext h H∧TblAt H w twoT):=by
 obtain ⟨G,eG⟩:∃ G,G=h++[tbB (.slice none 0 0) (.slice none 0 0) (.slice none 0 0)]:=⟨_,rfl⟩
 have xG:Ext h G:=by rw [eG];exact .app .refl
 have gG:G[h.length]?=some (tbB (.slice none 0 0) (.slice none 0 0) (.slice none 0 0)):=by rw [eG];exact get_eq rfl
 obtain ⟨H1,eH1⟩:∃ H1,H1=G++[rowE encE 131 twoT.E 0]:=⟨_,rfl⟩
 have x1:Ext G H1:=by rw [eH1];exact .app .refl
 have g1:H1[G.length]?=some (rowE encE 131 twoT.E 0):=by rw [eH1];exact get_eq rfl
 obtain ⟨H2,eH2⟩:∃ H2,H2=H1++[rowE enc3 133 twoT.L 0]:=⟨_,rfl⟩
 have x2:Ext H1 H2:=by rw [eH2];exact .app .refl
 have g2:H2[H1.length]?=some (rowE enc3 133 twoT.L 0):=by rw [eH2];exact get_eq rfl
 obtain ⟨H3,eH3⟩:∃ H3,H3=H2++[rowE enc3 128 twoT.P 0]:=⟨_,rfl⟩
 have x3:Ext H2 H3:=by rw [eH3];exact .app .refl
 have g3:H3[H2.length]?=some (rowE enc3 128 twoT.P 0):=by rw [eH3];exact get_eq rfl
 have g03:=(x1.trans (x2.trans x3)).get gG
 have lG:G.length=h.length+1:=by rw [eG];simp
 have l1:=x1.len
 have l2:=x2.len
 have l3:=x3.len
 have b1:∀ {lit:Bool},bsA prog lit G 23 2 [(0,.agg [.int .i64 2,.int .i64 1,.int .i64 0,.int .i64 6]),(1,.agg [.int .i64 0,.int .i64 1,.int .i64 3,.int .i64 6])]=some (.slice (some ⟨G.length,0,0⟩) 2 2,H1):=fun {lit}=>by
  rw [eH1]
  simp [bsA,rowOf,Fc.el23,fillA,repCells,AVal.isN,AVal.cells,splice,rowE,flat,encE,twoT]
 have b2:∀ {lit:Bool},bsA prog lit H1 24 2 [(0,.agg [.int .i64 1,.int .i64 1,.int .i64 1]),(1,.agg [.int .i64 2,.int .i64 0,.int .i64 1])]=some (.slice (some ⟨H1.length,0,0⟩) 2 2,H2):=fun {lit}=>by
  rw [eH2]
  simp [bsA,rowOf,Fc.el24,fillA,repCells,AVal.isN,AVal.cells,splice,rowE,flat,enc3,twoT]
 have b3:∀ {lit:Bool},bsA prog lit H2 25 6 [(0,.agg [.int .i64 5,.int .i64 5,.int .i64 5]),(1,.agg [.int .i64 6,.int .i64 6,.int .i64 5]),(2,.agg [.int .i64 8,.int .i64 5,.int .i64 5]),(3,.agg [.int .i64 5,.int .i64 5,.int .i64 7]),(4,.agg [.int .i64 6,.int .i64 7,.int .i64 5]),(5,.agg [.int .i64 5,.int .i64 5,.int .i64 6])]=some (.slice (some ⟨H2.length,0,0⟩) 6 6,H3):=fun {lit}=>by
  rw [eH3]
  simp [bsA,rowOf,Fc.el25,fillA,repCells,AVal.isN,AVal.cells,splice,rowE,flat,enc3,twoT]
 unfold tbB at eG gG g03
 refine ret_raw func53 rfl (by kernel_rfl) ?_
 have hsp:=@Nat.succ_ne_zero;repeat' (first|simp (disch:=first|exact dqb|fail) only [go_sem,↓reduceIte,hsp,← eG,bd3S,bd3L,b1,b2,b3,g03]|refine WP_drw ?_|refine cnd_intro (fun hsp=>?_) fun hsp=>?_)
 refine ⟨Ext.set (xG.trans (x1.trans (x2.trans x3))) (Nat.le_refl _),_,_,_,rfl,Rows.own (l:=twoT.E) (e:=131) (n:=2) (ver:=0) ?_ rfl (by simp [twoT]),Rows.own (l:=twoT.L) (e:=133) (n:=2) (ver:=0) ?_ rfl (by simp [twoT]),Rows.own (l:=twoT.P) (e:=128) (n:=6) (ver:=0) ?_ rfl (by simp [twoT])⟩
 ·rw [List.getElem?_set_ne (by omega)];exact (x2.trans x3).get g1
 ·rw [List.getElem?_set_ne (by omega)];exact x3.get g2
 ·rw [List.getElem?_set_ne (by omega)];exact g3
end Go.AM
namespace Go.AM
open Go.Proofs.Tryz
attribute [-go_sem] put_ne put_same
attribute [local go_sem ↓] put_if
def lexN (n:Nat):Nat→List Int→Nat→List (List Int)
 | 0,l,_=>[l]
 | d+1,l,a=>(List.range (n-a)).flatMap fun q=>lexN n d (l++[((a+q:Nat):Int)]) (a+q+1)
def lexQ (n:Nat) (d:Nat) (l:List Int) (a j:Nat):List (List Int):=(List.range j).flatMap fun q=>lexN n d (l++[((a+q:Nat):Int)]) (a+q+1)
theorem lexQ_succ {n:Nat} {l:List Int} {d a j:Nat}:lexQ n d l a (j+1)=lexQ n d l a j++lexN n d (l++[((a+j:Nat):Int)]) (a+j+1):=by simp [lexQ,List.range_succ]
theorem lexQ_pre {n:Nat} {l:List Int} {d a j:Nat}:∀ k,∃ s,lexQ n d l a (j+k)=lexQ n d l a j++s
 | 0=>⟨[],by simp⟩
 | k+1=>by
  obtain ⟨s,e⟩:=lexQ_pre (n:=n) (l:=l) (d:=d) (a:=a) (j:=j) k
  exact ⟨s++lexN n d (l++[((a+(j+k):Nat):Int)]) (a+(j+k)+1),by rw [show j+(k+1)=(j+k)+1 by omega,lexQ_succ,e,List.append_assoc]⟩
def BackY (base ob:Nat) (g:AVal) (n many:Nat) (p:List Int→Bool) (I:Option (List Int)→Heap→Prop):Prop :=
 ∀ H o sv l,base≤H.length→ob<H.length→I o H→Own encI 3 0 H sv l→Off [ob] sv→l.length=many→(∀ x ∈ l,0≤x∧x<(n:Int))→∃ H',callL prog raw base g [sv] H=some (.bool (p l),H')∧KeepX ob H H'∧I (some l) H'
def moreY (M S O R:Nat):AVal:=.fn 259 [] [.ptr (some ⟨M,0,0⟩),.ptr (some ⟨S,0,0⟩),.ptr (some ⟨O,0,0⟩),.ptr (some ⟨R,0,0⟩)]
def MoreAt (H:Heap) (ob M S O R many n:Nat) (g:AVal):Prop:=(M ≠ ob∧S ≠ ob∧O ≠ ob∧R ≠ ob)∧H[M]?=some ⟨.cells [.int .i64 (many:Int)] 3 false false,0⟩∧H[S]?=some ⟨.cells [g] 210 false false,0⟩∧H[O]?=some ⟨.cells [.int .i64 (n:Int)] 3 false false,0⟩∧H[R]?=some ⟨.cells [moreY M S O R] 111 false false,0⟩
theorem MoreAt.keep {H H':Heap} {ob M S O R many n:Nat} {g:AVal} (x:MoreAt H ob M S O R many n g) (k:KeepX ob H H'):MoreAt H' ob M S O R many n g:=by
 obtain ⟨⟨a,b,c,d⟩,x1,x2,x3,x4⟩:=x
 exact ⟨⟨a,b,c,d⟩,k.2 _ _ a x1,k.2 _ _ b x2,k.2 _ _ c x3,k.2 _ _ d x4⟩
theorem stT12 {base:Nat} {l:List Oper} {s:St} {Q:AExit→St→Prop}:WP prog raw base (.region 6 l.toArray true) s Q=WPS prog raw base (.region 6 l.toArray true) s Q:=WP_stop
attribute [local go_sem ↓ 3000] stT12
set_option maxHeartbeats 2000000 in
theorem run_moreY {base ob M S O R many n:Nat} {g:AVal} {p:List Int→Bool} {I:Option (List Int)→Heap→Prop} (hg:One g) (hcb:BackY base ob g n many p I) (hI:∀ o H H',Ext H H'→I o H→I o H') (hn:n≤1000) (hmany:many≤1000) :
  ∀ (d:Nat) {l:List Int} {a:Nat} {lv:AVal} {H:Heap} {o:Option (List Int)},l.length+d=many→base≤H.length→ob<H.length→Own encI 3 0 H lv l→Off [ob] lv→(∀ x ∈ l,0≤x∧x<(n:Int))→a≤n→I o H→MoreAt H ob M S O R many n g →
  Ret prog raw base (moreY M S O R) [lv,.int .i64 (a:Int)] H (fun v H'=>v=.bool (visF p (lexN n d l a) o).1∧KeepX ob H H'∧I (visF p (lexN n d l a) o).2 H'):=by
 intro d
 induction d with
 | zero =>
  intro l a lv H o hl hb hob hO hof hsub ha hio hM
  obtain ⟨⟨n1,n2,n3,n4⟩,m1,m2,m3,m4⟩:=hM
  have hll:=own_len hO Fc.el35 (by omega)
  have t1:((l.length:Int)=(many:Int))=True:=eq_true (by omega)
  obtain ⟨H',e1,k1,i1⟩:=hcb H o lv l hb hob hio hO hof (by omega) hsub
  have r:visF p (lexN n 0 l a) o=(p l,some l):=by
   simp only [lexN,visF]
   cases p l<;>rfl
  rw [r]
  refine ret_raw func259 rfl (by kernel_rfl) ?_
  have hsp:=@Nat.succ_ne_zero;repeat' (first|simp (disch:=first|exact dqb|fail) only [go_sem,↓reduceIte,hsp,hll,m1,t1,m2,e1]|refine WP_drw ?_|refine cnd_intro (fun hsp=>?_) fun hsp=>?_)
  exact ⟨k1,i1⟩
 | succ d ih =>
  intro l a lv H o hl hb hob hO hof hsub ha hio hM
  have hM0:=hM
  obtain ⟨⟨n1,n2,n3,n4⟩,m1,m2,m3,m4⟩:=hM
  have hll:=own_len hO Fc.el35 (by omega)
  have t1:((l.length:Int)=(many:Int))=False:=eq_false (by omega)
  refine ret_raw func259 rfl (by kernel_rfl) ?_
  have hsp:=@Nat.succ_ne_zero;repeat' (first|simp (disch:=first|exact dqb|fail) only [go_sem,↓reduceIte,hsp,hll,m1,t1]|refine WP_drw ?_|refine cnd_intro (fun hsp=>?_) fun hsp=>?_)
  refine WP_count [(8,31)] 0 (n-a) (Nat.zero_le _) (fun _ j fr h'=>fr 9=.int .i64 ((a+j:Nat):Int)∧KeepX ob H h'∧(visF p (lexQ n d l a j) o).1=false∧I (visF p (lexQ n d l a j) o).2 h') ?_ ?_ ?_
  ·exact ⟨by (simp (disch:=first|exact dqb|fail) only [go_sem,↓reduceIte,Int.natCast_zero];first|done|rfl),.refl,rfl,hio⟩
  ·rintro j fr H1 hj0 hj hA ⟨r9,xK,hv,hi1⟩
   have p0:=hA 0 rfl
   have p4:=hA 4 rfl
   have p5:=hA 5 rfl
   try simp (disch:=first|exact dqb|fail) only [go_sem,↓reduceIte] at p0 p4 p5
   have hM1:=hM0.keep xK
   obtain ⟨_,q1,q2,q3,q4⟩:=hM1
   have hlk:=xK.1
   have hO1:=xK.own hO hof
   have hlt:(((a+j:Nat):Int)<(n:Int))=True:=eq_true (by omega)
   have hsp:=@Nat.succ_ne_zero;repeat' (first|simp (disch:=first|exact dqb|fail) only [go_sem,↓reduceIte,hsp,r9,p0,p4,p5,q3,hlt]|refine WP_drw ?_|refine cnd_intro (fun hsp=>?_) fun hsp=>?_)
   refine WPS_go ?_
   have hsmall:Small l:=⟨by omega,fun y hy=>by have:=hsub y hy;omega⟩
   obtain ⟨cv,H2,e2,x2,o2⟩:=run_cloneI (base:=base) hO1 hsmall
   have hl2:=x2.len
   obtain ⟨v',H3,ea,oV,hle,hE,hV1⟩:=o2.append1 (y:=((a+j:Nat):Int)) (base:=base) (t:=35) rfl rfl Fc.el35 encI_sc (by omega) hl2 (by omega)
   have x3:Ext H1 H3:=hE H1 (Nat.le_refl _) x2
   have hl3:=x3.len
   have k3:KeepX ob H1 H3:=.ofExt x3
   have hs2:∀ y ∈ l++[((a+j:Nat):Int)],0≤y∧y<(n:Int):=fun y hy=>by
    rcases List.mem_append.1 hy with q|q
    ·exact hsub y q
    ·simp only [List.mem_singleton] at q;omega
   obtain ⟨rv,H4,e4,rfl,k4,i4⟩:=ih (l:=l++[((a+j:Nat):Int)]) (a:=a+j+1) (lv:=v') (H:=H3) (o:=(visF p (lexQ n d l a j) o).2) (by simp;omega) (by omega) (by omega) (oV.low (Nat.zero_le _)) (oV.off (fun i hi=>by simp at hi;omega)) hs2 (by omega) (hI _ _ _ x3 hi1) ((hM0.keep xK).keep k3)
   have hjj:(((a+j:Nat):Int)+1)=((a+j+1:Nat):Int):=by omega
   have g42:=x2.get q4
   have g43:=x3.get q4
   have hlow1:refsLow H1.length (moreY M S O R):=by
    have a1:=lt_of_get q1
    have a2:=lt_of_get q2
    have a3:=lt_of_get q3
    have a4:=lt_of_get q4
    simp [refsLow,moreY,AVal.refs,refsL,a1,a2,a3,a4]
   have hsp:=visF_app (p:=p) (a:=lexQ n d l a j) (b:=lexN n d (l++[((a+j:Nat):Int)]) (a+j+1)) (o:=o)
   rw [← lexQ_succ,if_neg (by simp [hv])] at hsp
   rw [← hsp] at e4 i4
   obtain ⟨res,eres⟩:∃ res,res=visF p (lexQ n d l a (j+1)) o:=⟨_,rfl⟩
   rw [← eres] at e4 i4 ⊢
   refine WP_wild [⟨0,111,5,⟨R,0,0⟩,moreY M S O R,8⟩] (by kernel_rfl) (by kernel_rfl) (by kernel_rfl) ⟨hlow1,trivial⟩ fun K hK=>?_
   iterate 9
    rw [TRS_cons]
    refine ⟨by first|(simp (disch:=first|exact dqb|fail) only [go_sem,↓reduceIte,r9,p0,p4,p5,q4,g42,g43,e2,ea,hjj,e4,ldsQ_cons,ldsQ_nil,grdQ_cons,grdQ_nil,if_true,Nat.reduceLeDiff];done)|exact trivial,?_⟩
    simp (disch:=first|exact dqb|fail) only [go_sem,↓reduceIte,r9,p0,p4,p5,q4,g42,g43,e2,ea,hjj,e4]
   rw [TRS_nil]
   refine ⟨by first|(simp (disch:=first|exact dqb|fail) only [go_sem,↓reduceIte,r9,p0,p4,p5,q4,g42,g43,e2,ea,hjj,e4,ldsQ_cons,ldsQ_nil,grdQ_cons,grdQ_nil,if_true,Nat.reduceLeDiff];done)|exact trivial,?_⟩
   subst hK
   have hkf:KeepX ob H H4:=(xK.trans k3).trans k4
   cases hres:res.1 with
   | true =>
    have hwh:visF p (lexN n (d+1) l a) o=res:=by
     obtain ⟨s,e⟩:=lexQ_pre (n:=n) (l:=l) (d:=d) (a:=a) (j:=j+1) (n-a-(j+1))
     rw [show j+1+(n-a-(j+1))=n-a by omega] at e
     show visF p (lexQ n d l a (n-a)) o=res
     rw [e,visF_app,if_pos (by rw [← eres];exact hres),eres]
    have hsp:=@Nat.succ_ne_zero;repeat' (first|simp (disch:=first|exact dqb|fail) only [go_sem,↓reduceIte,hsp,p0,p4,p5,hres]|refine WP_drw ?_|refine cnd_intro (fun hsp=>?_) fun hsp=>?_)
    rw [hwh]
    exact ⟨by rw [hres],hkf,i4⟩
   | false =>
    have hsp:=@Nat.succ_ne_zero;repeat' (first|simp (disch:=first|exact dqb|fail) only [go_sem,↓reduceIte,hsp,r9,p0,p4,p5,hres]|refine WP_drw ?_|refine cnd_intro (fun hsp=>?_) fun hsp=>?_)
    exact ⟨agq,by first|rfl|omega,hkf,i4⟩
  ·rintro fr H1 hA ⟨r9,xK,hv,hi1⟩
   have p0:=hA 0 rfl
   have p4:=hA 4 rfl
   have p5:=hA 5 rfl
   try simp (disch:=first|exact dqb|fail) only [go_sem,↓reduceIte] at p0 p4 p5
   have hM1:=hM0.keep xK
   obtain ⟨_,q1,q2,q3,q4⟩:=hM1
   have hlt:(((a+(n-a):Nat):Int)<(n:Int))=False:=eq_false (by omega)
   have hsp:=@Nat.succ_ne_zero;repeat' (first|simp (disch:=first|exact dqb|fail) only [go_sem,↓reduceIte,hsp,r9,p0,p4,p5,q3,hlt]|refine WP_drw ?_|refine cnd_intro (fun hsp=>?_) fun hsp=>?_)
   refine ⟨?_,xK,hi1⟩
   show _=AVal.bool (visF p (lexQ n d l a (n-a)) o).1
   rw [hv]
theorem run_listsY {base ob many n:Nat} {h:Heap} {g:AVal} {p:List Int→Bool} {I:Option (List Int)→Heap→Prop} {o:Option (List Int)} (hb:base≤h.length) (hob:ob<h.length) (hg:One g) (hcb:BackY base ob g n many p I) (hI:∀ o H H',Ext H H'→I o H→I o H') (hn:n≤1000) (hmany:many≤1000) (hio:I o h) :
  Ret prog raw base (.fn 207 [] []) [.int .i64 (many:Int),.int .i64 (n:Int),g] h (fun v H'=>v=.bool (visF p (lexN n many [] 0) o).1∧KeepX ob h H'∧I (visF p (lexN n many [] 0) o).2 H'):=by
 obtain ⟨h2,eh2⟩:∃ h2:Heap,h2=h++[⟨.cells [.int .i64 (many:Int)] 3 false false,0⟩]++[⟨.cells [.int .i64 (n:Int)] 3 false false,0⟩]++[⟨.cells [g] 210 false false,0⟩]++[⟨.cells [moreY h.length (h.length+1+1) (h.length+1) (h.length+1+1+1)] 111 false false,0⟩]:=⟨_,rfl⟩
 have xh:Ext h h2:=by rw [eh2];exact .app (.app (.app (.app .refl)))
 have hl2:=xh.len
 have hM:MoreAt h2 ob h.length (h.length+1+1) (h.length+1) (h.length+1+1+1) many n g:=by
  rw [eh2]
  exact ⟨⟨by omega,by omega,by omega,by omega⟩,get_app (get_app (get_app (get_eq rfl))),get_app (get_eq (by simp)),get_app (get_app (get_eq (by simp))),get_eq (by simp)⟩
 obtain ⟨v1,H1,e1,rfl,k1,i1⟩:=run_moreY hg hcb hI hn hmany many (l:=[]) (a:=0) (lv:=.slice none 0 0) (H:=h2) (o:=o) (by simp) (by omega) (by omega) Own.nil (fun r n c q=>by cases q) (fun x hx=>by cases hx) (Nat.zero_le _) (hI _ _ _ xh hio) hM
 rw [eh2,Int.natCast_zero] at e1
 unfold moreY at e1
 refine ret_raw func207 rfl (by kernel_rfl) ?_
 have hsp:=@Nat.succ_ne_zero;repeat' (first|simp (disch:=first|exact dqb|fail) only [go_sem,↓reduceIte,hsp,e1]|refine WP_drw ?_|refine cnd_intro (fun hsp=>?_) fun hsp=>?_)
 exact ⟨(KeepX.ofExt xh).trans k1,i1⟩
end Go.AM
namespace Go.AM
open Go.Proofs.Tryz
attribute [-go_sem] put_ne put_same
attribute [local go_sem ↓] put_if
def OutY (h0:Heap) (ob:Nat) (o:Option (List Int)) (H:Heap):Prop:=h0.length≤ob∧Ext h0 H∧∃ sv,H[ob]?=some ⟨.cells [sv] 35 false false,0⟩∧Own encI 3 0 H sv (o.getD [])∧Off [ob] sv
theorem OutY.ext {h0 H H':Heap} {ob:Nat} {o:Option (List Int)} (x:OutY h0 ob o H) (e:Ext H H'):OutY h0 ob o H':=by
 obtain ⟨a,b,sv,c,d,f⟩:=x
 exact ⟨a,b.trans e,sv,e.get c,d.ext e,f⟩
def strB (T:EyT) (l:List Int):Bool:=l.all fun a=>l.all fun b=>decide (a=b) || !mtB T a.toNat b.toNat
abbrev bdB (g:AVal):ABlk:=⟨.cells [g] 272 false false,0⟩
def Tog (h:Heap) (g:AVal) (n:Nat) (t:Int→Int→Bool):Prop:=One g∧∀ base K a b,Ext h K→0≤a∧a<(n:Int)→0≤b∧b<(n:Int)→callL prog raw base g [.int .i64 a,.int .i64 b] K=some (.bool (t a b),K)
theorem Tog.ext {h H:Heap} {g:AVal} {n:Nat} {t:Int→Int→Bool} (x:Tog h g n t) (e:Ext h H):Tog H g n t:=⟨x.1,fun base K a b y=>x.2 base K a b (e.trans y)⟩
theorem run_most3 {base ab bb n:Nat} {h:Heap} {g:AVal} {a b:Int} {t:Int→Int→Bool} (hT:Tog h g n t) (ha:h[ab]?=some ⟨.cells [.int .i64 a] 3 false false,0⟩) (hb:h[bb]?=some (bdB g)) (h1:0≤a∧a<(n:Int)) (h2:0≤b∧b<(n:Int)) :
  callL prog raw base (.fn 210 [] [.ptr (some ⟨ab,0,0⟩),.ptr (some ⟨bb,0,0⟩)]) [.int .i64 b] h=some (.bool (decide (a=b) || t a b),h):=by
 have hc:=fun base=>hT.2 base h a b .refl h1 h2
 have lb:=lt_of_get hb
 by_cases c:a=b
 ·have t1:(a=b)=True:=eq_true c
  refine callL_run func210 rfl rfl ?_
  have hsp:=@Nat.succ_ne_zero;repeat' (first|simp (disch:=first|exact dqb|fail) only [go_sem,↓reduceIte,hsp,ha,hb,t1]|refine WP_drw ?_|refine cnd_intro (fun hsp=>?_) fun hsp=>?_)
  exact fB (by simp [c])
 ·have t1:(a=b)=False:=eq_false c
  refine callL_run func210 rfl rfl ?_
  have hsp:=@Nat.succ_ne_zero;repeat' (first|simp (disch:=first|exact dqb|fail) only [go_sem,↓reduceIte,hsp,ha,hb,t1,hc]|refine WP_drw ?_|refine cnd_intro (fun hsp=>?_) fun hsp=>?_)
  exact fB (by simp [c])
theorem run_most2 {base lb bb n:Nat} {h:Heap} {g v:AVal} {a:Int} {l:List Int} {t:Int→Int→Bool} (hT:Tog h g n t) (hl:h[lb]?=some ⟨.cells [v] 35 false false,0⟩) (hb:h[bb]?=some (bdB g)) (hI:Ints h v l) (h1:0≤a∧a<(n:Int)) (hs:∀ x ∈ l,0≤x∧x<(n:Int)) :
  callL prog raw base (.fn 209 [] [.ptr (some ⟨lb,0,0⟩),.ptr (some ⟨bb,0,0⟩)]) [.int .i64 a] h=some (.bool (l.all fun b=>decide (a=b) || t a b),h):=by
 obtain ⟨G,eG⟩:∃ G,G=h++[(⟨.cells [.int .i64 a] 3 false false,0⟩:ABlk)]:=⟨_,rfl⟩
 have xG:Ext h G:=by rw [eG];exact .app .refl
 have ga:G[h.length]?=some ⟨.cells [.int .i64 a] 3 false false,0⟩:=by rw [eG];exact get_eq rfl
 have gl:=xG.get hl
 have gb:=xG.get hb
 have ov:=hI.one
 have ev:=fun base=>every_YI (base:=base) (g:=.fn 210 [] [.ptr (some ⟨h.length,0,0⟩),.ptr (some ⟨bb,0,0⟩)]) (fun b=>decide (a=b) || t a b) (hI.ext xG) (fun base T x hx=>run_most3 (hT.ext (xG.trans (.app .refl))) (get_app ga) (get_app gb) h1 (hs x hx)) ⟨rfl,rfl,rfl⟩
 refine callL_run func209 rfl rfl ?_
 have hsp:=@Nat.succ_ne_zero;repeat' (first|simp (disch:=first|exact dqb|fail) only [go_sem,↓reduceIte,hsp,← eG,gl,ev]|refine WP_drw ?_|refine cnd_intro (fun hsp=>?_) fun hsp=>?_)
 exact fB rfl xG
def Hol (g:AVal):Prop:=One g∧∀ base K v,One v→callL prog raw base g [v] K=some (.bool true,K)
theorem back_most {base ob hb bb n many:Nat} {h0:Heap} {g hv:AVal} {t:Int→Int→Bool} (h0b:base≤h0.length) (hT:Tog h0 g n t) (hH:Hol hv) (gh:h0[hb]?=some ⟨.cells [hv] 210 false false,0⟩) (gb:h0[bb]?=some (bdB g)) (hn:many≤1000) (hn2:n≤1000) :
  BackY base ob (.fn 208 [] [.ptr (some ⟨ob,0,0⟩),.ptr (some ⟨hb,0,0⟩),.ptr (some ⟨bb,0,0⟩)]) n many (fun l=>l.all fun a=>l.all fun b=>decide (a=b) || t a b) (OutY h0 ob):=by
 rintro H o sl l hbH hobH ⟨hh,xh,sv0,go,_,_⟩ hO hof hlen hsub
 have hone:=hO.one
 obtain ⟨o1,hH⟩:=hH
 have n1:hb ≠ ob:=by have:=lt_of_get gh;omega
 have n2:bb ≠ ob:=by have:=lt_of_get gb;omega
 obtain ⟨K,eK⟩:∃ K,K=H++[(⟨.cells [sl] 35 false false,0⟩:ABlk)]:=⟨_,rfl⟩
 have xK:Ext H K:=by rw [eK];exact .app .refl
 have lK:K.length=H.length+1:=by rw [eK];simp
 have kl:K[H.length]?=some ⟨.cells [sl] 35 false false,0⟩:=by rw [eK];exact get_eq rfl
 have ko:=xK.get go
 obtain ⟨K2,eK2⟩:∃ K2,K2=K.set ob ⟨.cells [sl] 35 false false,0⟩:=⟨_,rfl⟩
 have l2:K2.length=K.length:=by rw [eK2,List.length_set]
 have k2l:K2[H.length]?=some ⟨.cells [sl] 35 false false,0⟩:=by rw [eK2,List.getElem?_set_ne (by omega)];exact kl
 have k2o:K2[ob]?=some ⟨.cells [sl] 35 false false,0⟩:=by rw [eK2,List.getElem?_set_self (by omega)]
 have k2h:K2[hb]?=some ⟨.cells [hv] 210 false false,0⟩:=by rw [eK2,List.getElem?_set_ne (by omega)];exact xK.get (xh.get gh)
 have k2b:K2[bb]?=some (bdB g):=by rw [eK2,List.getElem?_set_ne (by omega)];exact xK.get (xh.get gb)
 have x2:Ext h0 K2:=by rw [eK2];exact (xh.trans xK).set hh
 have o2:Own encI 3 0 K2 sl l:=by rw [eK2];exact (hO.ext xK).setOff hof (by simp)
 have i2:Ints K2 sl l:=(o2.rows (by omega)).ints fun x hx=>by have:=hsub x hx;omega
 have hc:=fun base=>hH base K2 sl hone
 have ev:=fun base=>every_YI (base:=base) (g:=.fn 209 [] [.ptr (some ⟨H.length,0,0⟩),.ptr (some ⟨bb,0,0⟩)]) (fun a=>l.all fun b=>decide (a=b) || t a b) i2 (fun base T x hx=>run_most2 ((hT.ext x2).ext (.app .refl)) (get_app k2l) (get_app k2b) (i2.ext (.app .refl)) (hsub x hx) hsub) ⟨rfl,rfl,rfl⟩
 refine ⟨K2,callL_raw func208 rfl (by kernel_rfl) ?_,(KeepX.ofExt xK).trans (by rw [eK2];exact KeepX.refl.set),hh,x2,sl,k2o,o2,hof⟩
 have hsp:=@Nat.succ_ne_zero;repeat' (first|simp (disch:=first|exact dqb|fail) only [go_sem,↓reduceIte,hsp,← eK,kl,ko,← eK2,k2h,k2l,hc,ev]|refine WP_drw ?_|refine cnd_intro (fun hsp=>?_) fun hsp=>?_)
end Go.AM
namespace Go.AM
open Go.Proofs.Tryz
attribute [-go_sem] put_ne put_same
attribute [local go_sem ↓] put_if
def mstY (n:Nat) (p:List Int→Bool):Nat→Option (List Int)→List Int
 | 0,_=>[]
 | m+1,o=>if (visF p (lexN n (m+1) [] 0) o).1=true then (visF p (lexN n (m+1) [] 0) o).2.getD [] else mstY n p m (visF p (lexN n (m+1) [] 0) o).2
set_option maxHeartbeats 1000000 in
theorem run_mostY {base id:Nat} {h:Heap} {T:EyT} {g hv:AVal} {t:Int→Int→Bool} (hb:base≤h.length) (hD:EDk h id T) (hn:T.P.length≤9) (hT:Tog h g T.P.length t) (hH:Hol hv) :
  Ret prog raw base (.fn 138 [] []) [.ptr (some ⟨id,0,0⟩),.agg [g],hv] h (fun w H=>Ext h H∧Own encI 3 0 H w (mstY T.P.length (fun l=>l.all fun a=>l.all fun b=>decide (a=b) || t a b) T.P.length none)):=by
 obtain ⟨p,ep⟩:∃ p:List Int→Bool,p=(fun l=>l.all fun a=>l.all fun b=>decide (a=b) || t a b):=⟨_,rfl⟩
 rw [← ep]
 have og:=hT.1
 have oh:=hH.1
 obtain ⟨G,eG⟩:∃ G,G=h++[bdB g]++[(⟨.cells [hv] 210 false false,0⟩:ABlk)]:=⟨_,rfl⟩
 have xG:Ext h G:=by rw [eG];exact .app (.app .refl)
 have lG:G.length=h.length+2:=by rw [eG];simp
 have g0:G[h.length]?=some (bdB g):=by rw [eG];exact get_app (get_eq rfl)
 have g1:G[h.length+1]?=some ⟨.cells [hv] 210 false false,0⟩:=by rw [eG];exact get_eq (by simp)
 obtain ⟨G2,eG2⟩:∃ G2,G2=G++[(⟨.cells [.slice none 0 0] 35 false false,0⟩:ABlk)]:=⟨_,rfl⟩
 have x2:Ext G G2:=by rw [eG2];exact .app .refl
 have l2:G2.length=h.length+3:=by rw [eG2];simp [lG]
 have k2:G2[G.length]?=some ⟨.cells [.slice none 0 0] 35 false false,0⟩:=by rw [eG2];exact get_eq rfl
 have hD2:=hD.ext (xG.trans x2)
 obtain ⟨ev,lv,pv,gi,_,_,hP⟩:=hD2
 have op:=hP.one
 have nP:=hP.len (P:=prog) Fc.el25
 refine ret_raw func138 rfl (by kernel_rfl) ?_
 have hsp:=@Nat.succ_ne_zero;repeat' (first|simp (disch:=first|exact dqb|fail) only [go_sem,↓reduceIte,hsp,← eG,← eG2,gi,nP]|refine WP_drw ?_|refine cnd_intro (fun hsp=>?_) fun hsp=>?_)
 obtain ⟨N,eN⟩:∃ N,N=T.P.length:=⟨_,rfl⟩
 refine WP_count [(6,6),(8,28)] 0 N (Nat.zero_le _) (fun _ j fr h'=>fr 8=.int .i64 ((N-j:Nat):Int)∧∃ o,OutY G G.length o h'∧mstY N p N none=mstY N p (N-j) o) ?_ ?_ ?_
 ·exact ⟨by rw [eN];(simp (disch:=first|exact dqb|fail) only [go_sem,↓reduceIte,Int.natCast_zero];first|done|rfl),none,⟨Nat.le_refl _,x2,_,k2,Own.nil,fun r n c q=>by cases q⟩,rfl⟩
 ·rintro j fr H hj0 hj hA ⟨r8,o,hO,hm⟩
  have u0:=hA 0 rfl
  have u4:=hA 4 rfl
  have u5:=hA 5 rfl
  have u7:=hA 7 rfl
  try simp (disch:=first|exact dqb|fail) only [go_sem,↓reduceIte] at u0 u4 u5 u7
  have xH:=hO.2.1
  have lH:G.length<H.length:=by obtain ⟨_,_,_,q,_⟩:=hO;exact lt_of_get q
  obtain ⟨ev2,lv2,pv2,gi2,_,_,hP2⟩:=hD.ext (xG.trans xH)
  have op2:=hP2.one
  have nP2:=hP2.len (P:=prog) Fc.el25
  rw [← eN] at nP2
  have t0:(((N-j:Nat):Int) > 0)=True:=eq_true (by omega)
  have bk:=back_most (base:=base) (ob:=G.length) (many:=N-j) (n:=N) (h0:=G) (by omega) (by rw [eN];exact hT.ext xG) hH g1 g0 (by omega) (by omega)
  rw [← ep] at bk
  obtain ⟨w,H3,e3,rfl,k3,o3⟩:=run_listsY (base:=base) (h:=H) (o:=o) (by omega) lH ⟨rfl,rfl,rfl⟩ bk (fun o H H' e x=>x.ext e) (by omega) (by omega) hO
  have hgo:mstY N p (N-j) o=if (visF p (lexN N (N-j) [] 0) o).1=true then (visF p (lexN N (N-j) [] 0) o).2.getD [] else mstY N p (N-(j+1)) (visF p (lexN N (N-j) [] 0) o).2:=by
   rw [show N-j=(N-(j+1))+1 by omega];rfl
  have o3':=o3
  obtain ⟨_,x3,sv,go,oS,_⟩:=o3'
  have os:=oS.one
  cases hres:(visF p (lexN N (N-j) [] 0) o).1 with
  | true =>
   rw [hres] at e3
   rw [if_pos hres] at hgo
   have hsp:=@Nat.succ_ne_zero;repeat' (first|simp (disch:=first|exact dqb|fail) only [go_sem,↓reduceIte,hsp,r8,u0,u4,u5,u7,t0,gi2,nP2,e3,go]|refine WP_drw ?_|refine cnd_intro (fun hsp=>?_) fun hsp=>?_)
   rw [← eN,hm,hgo]
   exact ⟨xG.trans x3,oS⟩
  | false =>
   rw [hres] at e3
   rw [if_neg (by rw [hres];simp)] at hgo
   have hsp:=@Nat.succ_ne_zero;repeat' (first|simp (disch:=first|exact dqb|fail) only [go_sem,↓reduceIte,hsp,r8,u0,u4,u5,u7,t0,gi2,nP2,e3]|refine WP_drw ?_|refine cnd_intro (fun hsp=>?_) fun hsp=>?_)
   exact ⟨agq,by omega,_,o3,by rw [hm,hgo]⟩
 ·rintro fr H hA ⟨r8,o,hO,hm⟩
  have u0:=hA 0 rfl
  have u4:=hA 4 rfl
  have u5:=hA 5 rfl
  have u7:=hA 7 rfl
  try simp (disch:=first|exact dqb|fail) only [go_sem,↓reduceIte] at u0 u4 u5 u7
  rw [Nat.sub_self] at r8 hm
  rw [Int.natCast_zero] at r8
  have t0:((0:Int) > 0)=False:=eq_false (by omega)
  have hsp:=@Nat.succ_ne_zero;repeat' (first|simp (disch:=first|exact dqb|fail) only [go_sem,↓reduceIte,hsp,r8,u0,u4,u5,u7,t0]|refine WP_drw ?_|refine cnd_intro (fun hsp=>?_) fun hsp=>?_)
  rw [← eN,hm]
  exact ⟨xG.trans hO.2.1,Own.nil⟩
def strE (T:EyT):List Int:=mstY T.P.length (strB T) T.P.length none
theorem run_str1 {base id pb:Nat} {h:Heap} {T:EyT} {a b:Int} (hD:EDk h id T) (ok:TOk T) (hp:h[pb]?=some (pE id)) (ha:0≤a∧a<(T.P.length:Int)) (hb:0≤b∧b<(T.P.length:Int)) :
  callL prog raw base (.fn 139 [] [.ptr (some ⟨pb,0,0⟩)]) [.int .i64 a,.int .i64 b] h=some (.bool (!mtB T a.toNat b.toNat),h):=by
 obtain ⟨i,rfl⟩:=Int.eq_ofNat_of_zero_le ha.1
 obtain ⟨k,rfl⟩:=Int.eq_ofNat_of_zero_le hb.1
 have hc:=fun base=>run_match (base:=base) (i:=i) (k:=k) hD ok (by omega) (by omega)
 rw [Int.toNat_natCast,Int.toNat_natCast]
 refine callL_run func139 rfl rfl ?_
 have hsp:=@Nat.succ_ne_zero;repeat' (first|simp (disch:=first|exact dqb|fail) only [go_sem,↓reduceIte,hsp,hp,hc]|refine WP_drw ?_|refine cnd_intro (fun hsp=>?_) fun hsp=>?_)
 exact fB rfl
theorem run_str2 {base:Nat} {h:Heap} {v:AVal}:callL prog raw base (.fn 140 [] []) [v] h=some (.bool true,h):=by
 refine callL_run func140 rfl rfl ?_
 have hsp:=@Nat.succ_ne_zero;repeat' (first|simp (disch:=first|exact dqb|fail) only [go_sem,↓reduceIte,hsp]|refine WP_drw ?_|refine cnd_intro (fun hsp=>?_) fun hsp=>?_)
 exact fB rfl
theorem run_Strangers {base:Nat} {h:Heap} {v:AVal} {T:EyT} (hb:base≤h.length) (hT:TblAt h v T) (ok:TOk T) :
  Ret prog raw base (.fn 52 [] []) [v] h (fun w H=>Ext h H∧∃ x,w=.tuple [x,.int .i64 0]∧Own encI 3 0 H x (strE T)):=by
 obtain ⟨G,eG⟩:∃ G,G=h++[⟨.cells (match v with|.agg l=>l|_=>[]) 27 false false,0⟩]:=⟨_,rfl⟩
 have hT':=hT
 obtain ⟨ev,lv,pv,rfl,hE,hL,hP⟩:=hT'
 have o1:=hE.one
 have o2:=hL.one
 have o3:=hP.one
 simp only at eG
 have xG:Ext h G:=by rw [eG];exact .app .refl
 have g0:G[h.length]?=some (tbB ev lv pv):=by rw [eG];exact get_eq rfl
 have lG:G.length=h.length+1:=by rw [eG];simp
 obtain ⟨w1,H1,e1,x1,id,rfl,hD,hid⟩:=run_yopened (base:=base) (h:=G) (by omega) (hT.ext xG) ok
 have l1:=x1.len
 obtain ⟨G2,eG2⟩:∃ G2,G2=H1++[pE id]:=⟨_,rfl⟩
 have x2:Ext H1 G2:=by rw [eG2];exact .app .refl
 have gp:G2[H1.length]?=some (pE id):=by rw [eG2];exact get_eq rfl
 have l2:G2.length=H1.length+1:=by rw [eG2];simp
 have tg:Tog G2 (.fn 139 [] [.ptr (some ⟨H1.length,0,0⟩)]) T.P.length (fun a b=>!mtB T a.toNat b.toNat):=⟨⟨rfl,rfl,rfl⟩,fun base K a b e ha hb=>run_str1 ((hD.ext x2).ext e) ok (e.get gp) ha hb⟩
 obtain ⟨w3,H3,e3,x3,o4⟩:=run_mostY (base:=base) (h:=G2) (hv:=.fn 140 [] []) (by omega) (hD.ext x2) ok.nP tg ⟨⟨rfl,rfl,rfl⟩,fun base K v _=>run_str2⟩
 have ow:=o4.one
 refine ret_raw func52 rfl (by kernel_rfl) ?_
 have hsp:=@Nat.succ_ne_zero;repeat' (first|simp (disch:=first|exact dqb|fail) only [go_sem,↓reduceIte,hsp,← eG,g0,e1,← eG2,gp,e3]|refine WP_drw ?_|refine cnd_intro (fun hsp=>?_) fun hsp=>?_)
 exact ⟨xG.trans (x1.trans (x2.trans x3)),w3,rfl,o4⟩
theorem two_str:strE twoT=[0,2,3]:=by decide +kernel
end Go.AM
