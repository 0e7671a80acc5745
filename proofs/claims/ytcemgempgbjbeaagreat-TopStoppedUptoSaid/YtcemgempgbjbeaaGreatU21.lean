/-
  Package power: mills in memory, lines of shafts; a mill's error.
-/
import Derived.Test.YtcemgempgbjbeaaGreatU20
set_option linter.unusedSimpArgs false
set_option linter.unusedVariables false
namespace Go.AM
namespace F4
open Go.Proofs.Tryz
attribute [-go_sem] put_ne put_same
attribute [local go_sem ↓] put_if
structure Pwr where
 U:List Int
 K:List Int
def HrOk (l:List Int):Prop:=l.length≤100∧(∀ y ∈ l,0≤y∧y≤23)∧l.Pairwise (·<·)
def WvAt (H:Heap) (v:AVal) (K:List Int):Prop:=∃ vs:List (Int × AVal),Rows encV H v vs∧vs.map (·.1)=K∧∀ x ∈ vs,∃ hs,Ints H x.2 hs∧HrOk hs
def ShAt (H:Heap) (v:AVal) (U:List Int):Prop:=∃ xs:List (Int × Int),Rows encT H v xs∧xs.map (·.1)=U∧∀ x ∈ xs,0≤x.2∧x.2≤60
def PwAt (H:Heap) (v:AVal) (P:Pwr):Prop:=∃ sv wv,v=.agg [sv,wv]∧ShAt H sv P.U∧WvAt H wv P.K
theorem WvAt.ext {h H:Heap} {v:AVal} {K:List Int} (x:WvAt h v K) (e:Ext h H):WvAt H v K:=by
 obtain ⟨vs,a,b,c⟩:=x
 exact ⟨vs,a.ext e,b,fun y hy=>by obtain ⟨hs,q,r⟩:=c y hy;exact ⟨hs,q.ext e,r⟩⟩
theorem ShAt.ext {h H:Heap} {v:AVal} {U:List Int} (x:ShAt h v U) (e:Ext h H):ShAt H v U:=by
 obtain ⟨xs,a,b,c⟩:=x
 exact ⟨xs,a.ext e,b,c⟩
theorem PwAt.ext {h H:Heap} {v:AVal} {P:Pwr} (x:PwAt h v P) (e:Ext h H):PwAt H v P:=by
 obtain ⟨sv,wv,rfl,a,b⟩:=x
 exact ⟨sv,wv,rfl,a.ext e,b.ext e⟩
theorem WvAt.one {H:Heap} {v:AVal} {K:List Int} (x:WvAt H v K):One v:=by obtain ⟨vs,a,_⟩:=x;exact a.one
theorem ShAt.one {H:Heap} {v:AVal} {U:List Int} (x:ShAt H v U):One v:=by obtain ⟨vs,a,_⟩:=x;exact a.one
structure POk (P:Pwr):Prop where
 n:1≤P.U.length∧P.U.length≤6
 k:P.K.length≤6
 u:∀ (i:Nat) u,P.U[i]?=some u→-1≤u∧u<(i:Int)
 s:∀ x ∈ P.K,0≤x∧x<(P.U.length:Int)
theorem ShAt.len {H:Heap} {v:AVal} {U:List Int} (x:ShAt H v U):lenOpA prog H 100 v=some (.int .i64 (U.length:Int)):=by
 obtain ⟨xs,a,b,_⟩:=x
 rw [a.len (P:=prog) Fc.el100,← b,List.length_map]
theorem WvAt.len {H:Heap} {v:AVal} {K:List Int} (x:WvAt H v K):lenOpA prog H 101 v=some (.int .i64 (K.length:Int)):=by
 obtain ⟨xs,a,b,_⟩:=x
 rw [a.len (P:=prog) Fc.el101,← b,List.length_map]
theorem map_get {α β:Type} {f:α→β} {xs:List α} {ys:List β} (e:xs.map f=ys) {i:Nat} {y:β} (h:ys[i]?=some y):∃ x,xs[i]?=some x∧f x=y:=by
 rw [← e,List.getElem?_map] at h
 cases hx:xs[i]? with
 | none=>rw [hx] at h;cases h
 | some x=>rw [hx] at h;exact ⟨x,rfl,Option.some.inj h⟩
theorem ShAt.up {H:Heap} {v:AVal} {U:List Int} (x:ShAt H v U) {i:Nat} {u:Int} (hu:U[i]?=some u) :
  indexAddrA prog 100 v (.int .i64 (i:Int))=some (elAdr v encT.z i 0)∧fieldAddrA prog 189 (elAdr v encT.z i 0) 0=some (elAdr v encT.z i 0)∧loadP prog H 3 (elAdr v encT.z i 0)=some (.int .i64 u)∧∃ p,0≤p∧p≤60∧loadP prog H 189 (elAdr v encT.z i 0)=some (.agg [.int .i64 u,.int .i64 p]):=by
 obtain ⟨xs,a,b,c⟩:=x
 obtain ⟨y,hy,rfl⟩:=map_get b hu
 have hl:=(List.getElem?_eq_some_iff.1 hy).1
 have a1:=a.addr (P:=prog) (i:=(i:Int)) Fc.el100 Fc.ar100 (by omega) (by omega)
 rw [Int.toNat_natCast] at a1
 have cy:=c y (List.mem_of_getElem? hy)
 exact ⟨a1,elAdr_field (P:=prog) (o:=0) (off:=0) (q:=false) (n:=1) a hl (by kernel_rfl) (by decide),a.cell Fc.ty3 hy rfl,y.2,cy.1,cy.2,a.load Fc.ty189 hy⟩
theorem WvAt.sh {H:Heap} {v:AVal} {K:List Int} (x:WvAt H v K) {i:Nat} {u:Int} (hu:K[i]?=some u) :
  indexAddrA prog 101 v (.int .i64 (i:Int))=some (elAdr v encV.z i 0)∧fieldAddrA prog 191 (elAdr v encV.z i 0) 0=some (elAdr v encV.z i 0)∧loadP prog H 3 (elAdr v encV.z i 0)=some (.int .i64 u)∧∃ w,One w∧loadP prog H 191 (elAdr v encV.z i 0)=some (.agg [.int .i64 u,w]):=by
 obtain ⟨xs,a,b,c⟩:=x
 obtain ⟨y,hy,rfl⟩:=map_get b hu
 have hl:=(List.getElem?_eq_some_iff.1 hy).1
 have a1:=a.addr (P:=prog) (i:=(i:Int)) Fc.el101 Fc.ar101 (by omega) (by omega)
 rw [Int.toNat_natCast] at a1
 obtain ⟨hs,q,_⟩:=c y (List.mem_of_getElem? hy)
 have l:=a.load Fc.ty191 hy
 have e:encV.cells y=[.int .i64 y.1,y.2]:=by show [AVal.int .i64 y.1,norm y.2]=_;rw [norm_one q.one]
 rw [e] at l
 exact ⟨a1,elAdr_field (P:=prog) (o:=0) (off:=0) (q:=false) (n:=1) a hl (by kernel_rfl) (by decide),a.cell Fc.ty3 hy rfl,y.2,q.one,l⟩
theorem run_pin {base:Nat} {h:Heap} {n lo hi:Int}:callL prog raw base (.fn 224 [] []) [.int .i64 n,.int .i64 lo,.int .i64 hi] h=some (.bool (decide (lo≤n∧n≤hi)),h):=by
 refine callL_run func224 rfl rfl ?_
 by_cases h1:lo≤n
 ·have t1:(n ≥ lo)=True:=eq_true h1
  have hsp:=@Nat.succ_ne_zero;repeat' (first|simp (disch:=first|exact dq|fail) only [go_sem,↓reduceIte,hsp,t1]|refine WP_drw ?_|refine cnd_intro (fun hsp=>?_) fun hsp=>?_)
  refine fB ?_
  simp [h1]
 ·have t1:(n ≥ lo)=False:=eq_false h1
  have hsp:=@Nat.succ_ne_zero;repeat' (first|simp (disch:=first|exact dq|fail) only [go_sem,↓reduceIte,hsp,t1]|refine WP_drw ?_|refine cnd_intro (fun hsp=>?_) fun hsp=>?_)
  refine fB ?_
  simp [h1]
attribute [go_sem] run_pin
theorem run_hour {base:Nat} {h:Heap} {n:Int}:callL prog raw base (.fn 268 [] []) [.int .i64 n] h=some (.bool (decide (0≤n∧n≤23)),h):=by
 refine callL_run func268 rfl rfl ?_
 have hsp:=@Nat.succ_ne_zero;repeat' (first|simp (disch:=first|exact dq|fail) only [go_sem,↓reduceIte,hsp]|refine WP_drw ?_|refine cnd_intro (fun hsp=>?_) fun hsp=>?_)
 exact fB rfl
theorem run_pck1 {base:Nat} {h:Heap} {x:Int × Int} (hx:0≤x.2∧x.2≤60):callL prog raw base (.fn 264 [] []) [.agg (encT.cells x)] h=some (.bool true,h):=by
 have t1:=decide_eq_true hx
 simp only [encT]
 refine callL_run func264 rfl rfl ?_
 have hsp:=@Nat.succ_ne_zero;repeat' (first|simp (disch:=first|exact dq|fail) only [go_sem,↓reduceIte,hsp,t1]|refine WP_drw ?_|refine cnd_intro (fun hsp=>?_) fun hsp=>?_)
 exact fB rfl
theorem encV_cells {x:Int × AVal} (h:One x.2):encV.cells x=[.int .i64 x.1,x.2]:=by show [AVal.int .i64 x.1,norm x.2]=_;rw [norm_one h]
theorem run_pck2 {base:Nat} {h:Heap} {x:Int × AVal} {hs:List Int} (hI:Ints h x.2 hs) (ok:HrOk hs):callL prog raw base (.fn 266 [] []) [.agg (encV.cells x)] h=some (.bool true,h):=by
 rw [encV_cells hI.one]
 have ov:=hI.one
 have ev:=fun base=>every_PI (base:=base) (h:=h++[⟨.cells [.int .i64 x.1,x.2] 191 false false,0⟩]) (g:=.fn 268 [] []) (fun n=>decide (0≤n∧n≤23)) hI.app (fun base T y _=>run_hour) ⟨rfl,rfl,rfl⟩
 rw [show (hs.all fun n=>decide (0≤n∧n≤23))=true from List.all_eq_true.2 fun y hy=>decide_eq_true (ok.2.1 y hy)] at ev
 refine callL_run func266 rfl rfl ?_
 have hsp:=@Nat.succ_ne_zero;repeat' (first|simp (disch:=first|exact dq|fail) only [go_sem,↓reduceIte,hsp,ev]|refine WP_drw ?_|refine cnd_intro (fun hsp=>?_) fun hsp=>?_)
 exact fB rfl
theorem run_pshaft {base:Nat} {h:Heap} {sv wv:AVal} {U:List Int} {n:Int} (hS:ShAt h sv U) (hn:U.length≤1000) (ow:One wv):callL prog raw base (.fn 270 [] []) [.agg [sv,wv],.int .i64 n] h=some (.bool (decide (0≤n∧n≤(U.length:Int)-1)),h):=by
 have os:=hS.one
 have e:=(hS.ext (.app .refl:Ext h (h++[⟨.cells [sv,wv] 103 false false,0⟩]))).len
 refine callL_run func270 rfl rfl ?_
 have hsp:=@Nat.succ_ne_zero;repeat' (first|simp (disch:=first|exact dq|fail) only [go_sem,↓reduceIte,hsp,e]|refine WP_drw ?_|refine cnd_intro (fun hsp=>?_) fun hsp=>?_)
 exact fB rfl
theorem run_pweaver {base:Nat} {h:Heap} {sv wv:AVal} {K:List Int} {n:Int} (hW:WvAt h wv K) (hn:K.length≤1000) (os:One sv):callL prog raw base (.fn 168 [] []) [.agg [sv,wv],.int .i64 n] h=some (.bool (decide (0≤n∧n≤(K.length:Int)-1)),h):=by
 have ow:=hW.one
 have e:=(hW.ext (.app .refl:Ext h (h++[⟨.cells [sv,wv] 103 false false,0⟩]))).len
 refine callL_run func168 rfl rfl ?_
 have hsp:=@Nat.succ_ne_zero;repeat' (first|simp (disch:=first|exact dq|fail) only [go_sem,↓reduceIte,hsp,e]|refine WP_drw ?_|refine cnd_intro (fun hsp=>?_) fun hsp=>?_)
 exact fB rfl
abbrev pwB (sv wv:AVal):ABlk:=⟨.cells [sv,wv] 103 false false,0⟩
theorem run_pck3 {base id:Nat} {h:Heap} {x:Int × AVal} {sv wv:AVal} {U:List Int} (hg:h[id]?=some (pwB sv wv)) (hS:ShAt h sv U) (hn:U.length≤1000) (ow:One wv) (o2:One x.2) (hx:0≤x.1∧x.1<(U.length:Int)):callL prog raw base (.fn 269 [] [.ptr (some ⟨id,0,0⟩)]) [.agg (encV.cells x)] h=some (.bool true,h):=by
 rw [encV_cells o2]
 have os:=hS.one
 have e:=fun base=>run_pshaft (base:=base) (n:=x.1) (hS.ext (.app .refl:Ext h (h++[⟨.cells [.int .i64 x.1,x.2] 191 false false,0⟩]))) hn ow
 rw [decide_eq_true (by omega)] at e
 unfold pwB at hg
 have lh:=lt_of_get hg
 refine callL_run func269 rfl rfl ?_
 have hsp:=@Nat.succ_ne_zero;repeat' (first|simp (disch:=first|exact dq|fail) only [go_sem,↓reduceIte,hsp,hg,e]|refine WP_drw ?_|refine cnd_intro (fun hsp=>?_) fun hsp=>?_)
 exact fB rfl
theorem run_prising {base:Nat} {h:Heap} {v:AVal} {l:List Int} (hI:Ints h v l) (hs:l.Pairwise (·<·)) (hl:l.length≤1000):callL prog raw base (.fn 272 [] []) [v] h=some (.bool true,h):=by
 have ov:=hI.one
 have hlen:=lenI hI
 refine callL_run func272 rfl rfl ?_
 have hsp:=@Nat.succ_ne_zero;repeat' (first|simp (disch:=first|exact dq|fail) only [go_sem,↓reduceIte,hsp]|refine WP_drw ?_|refine cnd_intro (fun hsp=>?_) fun hsp=>?_)
 refine WP_count [(2,19)] 1 (max 1 l.length) (by omega) (fun _ i fr h'=>fr 3=.int .i64 (i:Int)∧h'=h) ?_ ?_ ?_
 ·exact ⟨by (simp (disch:=first|exact dq|fail) only [go_sem,↓reduceIte,Int.natCast_zero];first|done|rfl),rfl⟩
 ·rintro i fr H hi0 hi hA ⟨r3,rfl⟩
  have p0:=hA 0 rfl
  try simp (disch:=first|exact dq|fail) only [go_sem,↓reduceIte] at p0
  have hlt:((i:Int)<(l.length:Int))=True:=eq_true (by omega)
  have e1:((i:Int)-1)=((i-1:Nat):Int):=by omega
  have a0:=adrI (i:=(i:Int)) (by omega) hI (by omega)
  have a1:=adrI (i:=((i-1:Nat):Int)) (by omega) hI (by omega)
  rw [Int.toNat_natCast] at a0 a1
  have l0:=loadI hI (i:=i) (by omega)
  have l1:=loadI hI (i:=i-1) (by omega)
  have t1:(l.getD i 0≤l.getD (i-1) 0)=False:=eq_false (by
   have:=List.pairwise_iff_getElem.1 hs (i-1) i (by omega) (by omega) (by omega)
   rw [List.getD_eq_getElem?_getD,List.getD_eq_getElem?_getD,List.getElem?_eq_getElem (by omega),List.getElem?_eq_getElem (show i-1<l.length by omega)]
   simp only [Option.getD_some]
   omega)
  have hsp:=@Nat.succ_ne_zero;repeat' (first|simp (disch:=first|exact dq|fail) only [go_sem,↓reduceIte,hsp,r3,p0,hlen,hlt,a0,l0,e1,a1,l1,t1]|refine WP_drw ?_|refine cnd_intro (fun hsp=>?_) fun hsp=>?_)
  exact ⟨agq,by omega⟩
 ·rintro fr H hA ⟨r3,rfl⟩
  have p0:=hA 0 rfl
  try simp (disch:=first|exact dq|fail) only [go_sem,↓reduceIte] at p0
  have hlt:(((max 1 l.length:Nat):Int)<(l.length:Int))=False:=eq_false (by omega)
  have hsp:=@Nat.succ_ne_zero;repeat' (first|simp (disch:=first|exact dq|fail) only [go_sem,↓reduceIte,hsp,r3,p0,hlen,hlt]|refine WP_drw ?_|refine cnd_intro (fun hsp=>?_) fun hsp=>?_)
  exact fB rfl
theorem run_pck4 {base:Nat} {h:Heap} {x:Int × AVal} {hs:List Int} (hI:Ints h x.2 hs) (ok:HrOk hs):callL prog raw base (.fn 271 [] []) [.agg (encV.cells x)] h=some (.bool true,h):=by
 rw [encV_cells hI.one]
 have ov:=hI.one
 have ev:=fun base=>run_prising (base:=base) (h:=h++[⟨.cells [.int .i64 x.1,x.2] 191 false false,0⟩]) hI.app ok.2.2 (by have:=ok.1;omega)
 refine callL_run func271 rfl rfl ?_
 have hsp:=@Nat.succ_ne_zero;repeat' (first|simp (disch:=first|exact dq|fail) only [go_sem,↓reduceIte,hsp,ev]|refine WP_drw ?_|refine cnd_intro (fun hsp=>?_) fun hsp=>?_)
 exact fB rfl
theorem all_T {α:Type} {l:List α}:(l.all fun _=>true)=true:=by simp
set_option maxHeartbeats 1000000 in
theorem run_pCheck {base:Nat} {h:Heap} {v:AVal} {P:Pwr} (hM:PwAt h v P) (ok:POk P):callL prog raw base (.fn 223 [] []) [v] h=some (.int .i64 0,h):=by
 obtain ⟨sv,wv,rfl,hS,hW⟩:=hM
 have os:=hS.one
 have ow:=hW.one
 have b1:=ok.n
 have b2:=ok.k
 obtain ⟨G,eG⟩:∃ G,G=h++[pwB sv wv]:=⟨_,rfl⟩
 have x0:Ext h G:=by rw [eG];exact .app .refl
 have g0:G[h.length]?=some (pwB sv wv):=by rw [eG];exact get_eq rfl
 have lG:G.length=h.length+1:=by rw [eG];simp
 have sG:=hS.ext x0
 have wG:=hW.ext x0
 have n1:=sG.len
 have n2:=wG.len
 obtain ⟨xs,q1,q2,q3⟩:=id sG
 obtain ⟨vs,r1,r2,r3⟩:=id wG
 have hs:∀ x ∈ vs,0≤x.1∧x.1<(P.U.length:Int):=fun x hx=>ok.s _ (by rw [← r2];exact List.mem_map_of_mem hx)
 have t1:decide (1≤(P.U.length:Int)∧(P.U.length:Int)≤9)=true:=decide_eq_true (by omega)
 have t2:((P.K.length:Int) > 6)=False:=eq_false (by omega)
 have e1:=fun base=>every_PS (base:=base) (g:=.fn 264 [] []) (fun _=>true) q1 (fun base Z x hx=>run_pck1 (q3 x hx)) ⟨rfl,rfl,rfl⟩
 have e2:=fun base=>every_PW (base:=base) (g:=.fn 266 [] []) (fun _=>true) r1 (fun base Z x hx=>by obtain ⟨hs,a,b⟩:=r3 x hx;exact run_pck2 a.app b) ⟨rfl,rfl,rfl⟩
 rw [all_T] at e1 e2
 unfold pwB at eG g0
 refine callL_run func223 rfl rfl ?_
 have hsp:=@Nat.succ_ne_zero;repeat' (first|simp (disch:=first|exact dq|fail) only [go_sem,↓reduceIte,hsp,← eG,g0,n1,t1,n2,t2,e1,e2]|refine WP_drw ?_|refine cnd_intro (fun hsp=>?_) fun hsp=>?_)
 refine WP_count [(2,4),(31,42)] 0 P.U.length (Nat.zero_le _) (fun _ i fr h'=>fr 31=.int .i64 (i:Int)∧Ext G h') ?_ ?_ ?_
 ·exact ⟨by (simp (disch:=first|exact dq|fail) only [go_sem,↓reduceIte,Int.natCast_zero];first|done|rfl),.refl⟩
 ·rintro i fr H hi0 hi hAg ⟨p31,xH⟩
  have p1:=hAg 1 rfl
  have p29:=hAg 29 rfl
  have p30:=hAg 30 rfl
  try simp (disch:=first|exact dq|fail) only [go_sem,↓reduceIte] at p1 p29 p30
  have hlt:((i:Int)<(P.U.length:Int))=True:=eq_true (by omega)
  obtain ⟨u,hu⟩:∃ u,P.U[i]?=some u:=⟨_,List.getElem?_eq_getElem hi⟩
  have fx:=ok.u i u hu
  obtain ⟨a1,_,_,pr,_,_,a2⟩:=(sG.ext xH).up hu
  have lH:=(x0.trans xH).len
  have t4:decide (-1≤u∧u≤(i:Int)-1)=true:=decide_eq_true (by omega)
  have hsp:=@Nat.succ_ne_zero;repeat' (first|simp (disch:=first|exact dq|fail) only [go_sem,↓reduceIte,hsp,p1,p29,p30,p31,hlt,a1,a2,t4]|refine WP_drw ?_|refine cnd_intro (fun hsp=>?_) fun hsp=>?_)
  exact ⟨agq,by omega,xH.app⟩
 ·rintro fr H hAg ⟨p31,xH⟩
  have p1:=hAg 1 rfl
  have p29:=hAg 29 rfl
  have p30:=hAg 30 rfl
  try simp (disch:=first|exact dq|fail) only [go_sem,↓reduceIte] at p1 p29 p30
  have hlt:((P.U.length:Int)<(P.U.length:Int))=False:=eq_false (by omega)
  have gH:=xH.get g0
  have x2:=x0.trans xH
  have lH:=x2.len
  have e3:=fun base=>every_PW (base:=base) (g:=.fn 269 [] [.ptr (some ⟨h.length,0,0⟩)]) (fun _=>true) (r1.ext xH) (fun base Z x hx=>run_pck3 (get_app gH) ((sG.ext xH).ext (.app .refl)) (by omega) ow (by obtain ⟨hs,a,b⟩:=r3 x hx;exact a.one) (hs x hx)) ⟨rfl,rfl,rfl⟩
  have e4:=fun base=>every_PW (base:=base) (g:=.fn 271 [] []) (fun _=>true) (r1.ext xH) (fun base Z x hx=>by obtain ⟨hs,a,b⟩:=r3 x hx;exact run_pck4 ((a.ext xH).app) b) ⟨rfl,rfl,rfl⟩
  rw [all_T] at e3 e4
  have hsp:=@Nat.succ_ne_zero;repeat' (first|simp (disch:=first|exact dq|fail) only [go_sem,↓reduceIte,hsp,p1,p29,p30,p31,hlt,gH,e3,e4]|refine WP_drw ?_|refine cnd_intro (fun hsp=>?_) fun hsp=>?_)
  exact fI rfl x2
end F4
end Go.AM
namespace Go.AM
namespace F4
open Go.Proofs.Tryz
attribute [-go_sem] put_ne put_same
attribute [local go_sem ↓] put_if
def lnF (U:List Int):Nat→Int→List Int
 | 0,_=>[]
 | n+1,s=>if s<0 then [] else s :: lnF U n (U.getD s.toNat (-1))
def lnA (U:List Int) (s:Int):List Int:=lnF U (U.length+1) s
def UOk (U:List Int):Prop:=∀ (i:Nat) u,U[i]?=some u→-1≤u∧u<(i:Int)
section
variable {U:List Int} (ok:UOk U)
include ok
theorem UOk.at {s:Int} (h0:0≤s) (h1:s<(U.length:Int)):U[s.toNat]?=some (U.getD s.toNat (-1))∧-1≤U.getD s.toNat (-1)∧U.getD s.toNat (-1)<s:=by
 have e:=getD_some (d:=(-1:Int)) (show s.toNat<U.length by omega)
 have:=ok _ _ e
 exact ⟨e,this.1,by omega⟩
theorem lnF_more:∀ (n:Nat) (s:Int),s<(n:Int)→s<(U.length:Int)→lnF U (n+1) s=lnF U n s
 | 0,s,h,_=>by simp only [lnF];rw [if_pos (by omega)]
 | n+1,s,h,h2=>by
  rw [lnF]
  conv=>rhs;rw [lnF]
  by_cases c:s<0
  ·rw [if_pos c,if_pos c]
  ·rw [if_neg c,if_neg c]
   obtain ⟨_,a,b⟩:=ok.at (by omega) h2
   rw [lnF_more n _ (by omega) (by omega)]
theorem lnA_step {s:Int} (h0:0≤s) (h1:s<(U.length:Int)):lnA U s=s :: lnA U (U.getD s.toNat (-1)):=by
 obtain ⟨_,a,b⟩:=ok.at h0 h1
 unfold lnA
 rw [lnF_more ok U.length (U.getD s.toNat (-1)) (by omega) (by omega),lnF,if_neg (by omega)]
omit ok in
theorem lnA_neg {s:Int} (h:s<0):lnA U s=[]:=by unfold lnA;rw [lnF,if_pos h]
theorem lnA_head {s:Int} (h0:-1≤s) (h1:s<(U.length:Int)):(lnA U s).getD 0 (-1)=s:=by
 by_cases c:0≤s
 ·rw [lnA_step ok c h1];rfl
 ·rw [lnA_neg (by omega)];show (-1:Int)=s;omega
theorem lnA_it:∀ (n:Nat) (s:Int),s<(n:Int)→-1≤s→s<(U.length:Int)→∀ j,j<(lnA U s).length→0≤(lnA U s).getD j (-1)∧(lnA U s).getD j (-1)≤s∧U[((lnA U s).getD j (-1)).toNat]?=some ((lnA U s).getD (j+1) (-1))
 | 0,s,h,h0,h1,j,hj=>by rw [lnA_neg (by omega)] at hj;simp at hj
 | n+1,s,h,h0,h1,j,hj=>by
  by_cases c:0≤s
  ·obtain ⟨e,a,b⟩:=ok.at c h1
   rw [lnA_step ok c h1] at hj ⊢
   cases j with
   | zero =>
    refine ⟨c,Int.le_refl _,?_⟩
    rw [List.getD_cons_succ,lnA_head ok a (by omega)]
    exact e
   | succ j =>
    simp only [List.getD_cons_succ]
    have:=lnA_it n _ (by omega) a (by omega) j (by simpa using hj)
    exact ⟨this.1,by omega,this.2.2⟩
  ·rw [lnA_neg (by omega)] at hj;simp at hj
theorem lnA_at {s:Int} (h0:-1≤s) (h1:s<(U.length:Int)) {j:Nat} (hj:j<(lnA U s).length):0≤(lnA U s).getD j (-1)∧(lnA U s).getD j (-1)<(U.length:Int)∧U[((lnA U s).getD j (-1)).toNat]?=some ((lnA U s).getD (j+1) (-1)):=by
 have:=lnA_it ok U.length s h1 h0 h1 j hj
 exact ⟨this.1,by omega,this.2.2⟩
theorem lnA_mem {s x:Int} (h0:-1≤s) (h1:s<(U.length:Int)) (h:x ∈ lnA U s):0≤x∧x<(U.length:Int):=by
 obtain ⟨j,hj,rfl⟩:=List.getElem_of_mem h
 have:=lnA_at ok h0 h1 hj
 rw [List.getD_eq_getElem?_getD,List.getElem?_eq_getElem hj] at this
 exact ⟨this.1,this.2.1⟩
theorem lnA_sorted:∀ (n:Nat) (s:Int),s<(n:Int)→-1≤s→s<(U.length:Int)→(lnA U s).Pairwise (· > ·)∧∀ x ∈ lnA U s,x≤s
 | 0,s,h,h0,h1=>by rw [lnA_neg (by omega)];simp
 | n+1,s,h,h0,h1=>by
  by_cases c:0≤s
  ·obtain ⟨e,a,b⟩:=ok.at c h1
   rw [lnA_step ok c h1]
   obtain ⟨p,q⟩:=lnA_sorted n _ (show U.getD s.toNat (-1)<(n:Int) by omega) a (by omega)
   refine ⟨List.pairwise_cons.2 ⟨fun x hx=>by have:=q x hx;omega,p⟩,fun x hx=>?_⟩
   rcases List.mem_cons.1 hx with rfl|hx
   ·exact Int.le_refl _
   ·have:=q x hx;omega
  ·rw [lnA_neg (by omega)];simp
theorem lnA_len {s:Int} (h0:-1≤s) (h1:s<(U.length:Int)):(lnA U s).length≤U.length:=by
 have hs:=(lnA_sorted ok U.length s h1 h0 h1).1
 have hn:(lnA U s).Nodup:=hs.imp fun h=>by omega
 have:∀ (n:Nat) (l:List Int),l.Pairwise (· > ·)→(∀ x ∈ l,0≤x∧x<(n:Int))→l.length≤n:=by
  intro n
  induction n with
  | zero=>intro l _ hb;cases l with
   | nil=>simp
   | cons x l=>have:=hb x (by simp);omega
  | succ n ih =>
   intro l hp hb
   cases l with
   | nil=>simp
   | cons x l =>
    have hp:=List.pairwise_cons.1 hp
    have hx:=hb x (by simp)
    have:=ih l hp.2 (fun y hy=>by have:=hp.1 y hy;have:=hb y (by simp [hy]);omega)
    simpa using this
 exact this _ _ hs fun x hx=>lnA_mem ok h0 h1 hx
end
def lnK (P:Pwr) (k:Nat):List Int:=lnA P.U (P.K.getD k (-1))
section
variable {P:Program} {raw:FuncId→Bool} {base:Nat}
def YieldsS (P:Program) (raw:FuncId→Bool) (base L:Nat) (g:AVal) (sb:Nat) (N:Nat) (xs:Nat→List AVal) (I:Nat→Heap→Prop) (B0:ABlk):Prop :=
 ∀ (J:Nat→Heap→Prop) (H0:Heap),L+1=H0.length→(∀ j H,J j H→I j H∧L+1≤H.length)→(∀ j H T,J j H→J j (H++T))→(∀ j H b,J j H→J j (H.set sb b)) →
  (∀ j H,j<N→J j H→∃ H',callL P raw base (.yld L) (xs j) H=some (.bool true,H')∧(∀ x,H[sb]?=some x→H'[sb]?=some x)∧J (j+1) H') →
  H0[sb]?=some B0→J 0 H0→∃ v H',callL P raw base g [.yld L] H0=some (v,H')∧J N H'
theorem WP_rangeS {g:Operand} {ps:List Tmp} {assign body:Code} {fr:AFrame} {h:Heap} {Q:AExit→St→Prop} {f:FuncId} {a c:List AVal} (hg:ev fr g=.fn f a c) {N sb:Nat} {B0:ABlk} {xs:Nat→List AVal} (I:Nat→Heap→Prop)
  (hit:YieldsS P raw base h.length (.fn f a c) sb N xs I B0) (hxs:∀ j,(xs j).length=ps.length) (hsb:sb<h.length) (hB0:h[sb]?=some B0) (happ:∀ j H T,I j H→I j (H++T)) (hset:∀ j H b,I j H→I j (H.set h.length b)) (hsetS:∀ j H b,I j H→I j (H.set sb b))
  (h0:I 0 (h++[loopB fr ps assign body .ready none]))
  (hbody:∀ j H B1 B2,j<N→I j H→h.length+1≤H.length→H[h.length]?=some B1→WP P raw base assign ⟨putAll fr ps (xs j),H⟩ (fun e s1=>e=.normal∧s1.h[h.length]?=some B1 ∧
   WP P raw base body ⟨s1.fr,s1.h.set h.length B2⟩ (fun e s2=>s2.h[h.length]?=some B2∧(∀ x,H[sb]?=some x→s2.h[sb]?=some x)∧e=.normal∧I (j+1) s2.h)))
  (hQ:∀ H,I N H→Q .normal ⟨fr,H⟩):WP P raw base (.rangeFunc g ps.toArray assign body) ⟨fr,h⟩ Q:=by
 obtain ⟨v,H',hc,hend⟩:=hit (fun j H=>I j H∧h.length+1≤H.length∧H[h.length]?=some (loopB fr ps assign body .ready none))
  (h++[loopB fr ps assign body .ready none]) (by simp) (fun j H hJ=>⟨hJ.1,hJ.2.1⟩)
  (fun j H T hJ=>⟨happ j H T hJ.1,by simp;omega,get_app hJ.2.2⟩)
  (fun j H b hJ=>⟨hsetS j H b hJ.1,by simpa using hJ.2.1,by rw [List.getElem?_set_ne (by omega)];exact hJ.2.2⟩)
  (fun j H hj hJ=>by
   obtain ⟨e,H2,hK,hcall⟩:=callL_yldW (K:=fun e H2=>H2[h.length]?=some (loopB fr ps assign body .busy none)∧(∀ x,H[sb]?=some x→H2[sb]?=some x)∧e=.normal∧I (j+1) H2)
    hJ.2.2 (hxs j) (by
     obtain ⟨e1,s1,h1,rfl,h2,e2,s2,h3,h4⟩:=hbody j H _ (loopB fr ps assign body .busy none) hj hJ.1 hJ.2.1 hJ.2.2
     exact ⟨.normal,s1,h1,rfl,h2,e2,s2,h3,h4.1,h4⟩)
   obtain ⟨k1,k2,k3,k4⟩:=hK
   subst k3
   refine ⟨_,hcall,fun x hx=>?_,?_⟩
   ·have:=k2 x hx
    rw [List.getElem?_set_ne (by omega)];exact this
   ·have hlt:=lt_of_get k1
    refine ⟨hset _ _ _ k4,by simp;omega,?_⟩
    rw [get_set k1,if_pos rfl]
    rfl)
  (get_app hB0) ⟨h0,by simp,by simp⟩
 obtain ⟨h1,_,h2⟩:=hend
 exact WP_rangeFunc hg hc h2 (by intro hh;cases hh) (hQ _ (hset _ _ _ h1))
end
theorem run_line {base:Nat} {h:Heap} {sv wv:AVal} {s:Int} (os:One sv) (ow:One wv):Ret prog raw base (.fn 81 [] []) [.agg [sv,wv],.int .i64 s] h (fun w H=>w=.fn 170 [] [.ptr (some ⟨h.length+1,0,0⟩),.ptr (some ⟨h.length,0,0⟩)]∧H=h++[pwB sv wv]++[intB s]):=by
 refine ret_raw func81 rfl (by kernel_rfl) ?_
 have hsp:=@Nat.succ_ne_zero;repeat' (first|simp (disch:=first|exact dq|fail) only [go_sem,↓reduceIte,hsp]|refine WP_drw ?_|refine cnd_intro (fun hsp=>?_) fun hsp=>?_)
 first|exact ⟨rfl,rfl⟩|rfl
set_option maxHeartbeats 1000000 in
theorem line_yields {U:List Int} {base Lx sb mb:Nat} {sv wv:AVal} {s:Int} {I:Nat→Heap→Prop} (ok:UOk U) (hs:-1≤s∧s<(U.length:Int)) (hsb:base≤sb) (hne:mb ≠ sb) (hI:∀ j H,I j H→H[mb]?=some (pwB sv wv)∧ShAt H sv U) :
  YieldsS prog raw base Lx (.fn 170 [] [.ptr (some ⟨sb,0,0⟩),.ptr (some ⟨mb,0,0⟩)]) sb (lnA U s).length (fun j=>[.int .i64 ((lnA U s).getD j (-1))]) I (intB s):=by
 intro J H0 hL hJI happ hset hcb hB0 h0
 suffices hh:Ret prog raw base (.fn 170 [] [.ptr (some ⟨sb,0,0⟩),.ptr (some ⟨mb,0,0⟩)]) [.yld Lx] H0 (fun w H'=>J (lnA U s).length H') by
  obtain ⟨w,H',e,k⟩:=hh
  exact ⟨w,H',e,k⟩
 have hhd:=lnA_head ok hs.1 hs.2
 refine ret_raw func170 rfl (by kernel_rfl) ?_
 have hsp:=@Nat.succ_ne_zero;repeat' (first|simp (disch:=first|exact dq|fail) only [go_sem,↓reduceIte,hsp]|refine WP_drw ?_|refine cnd_intro (fun hsp=>?_) fun hsp=>?_)
 refine WP_count [(4,15)] 0 (lnA U s).length (Nat.zero_le _) (fun _ i fr h'=>J i h'∧h'[sb]?=some (intB ((lnA U s).getD i (-1)))) ?_ ?_ ?_
 ·exact ⟨h0,by rw [hhd];exact hB0⟩
 ·rintro i fr H hi0 hi hA ⟨hj,hb⟩
  have p0:=hA 0 rfl
  have p1:=hA 1 rfl
  have p2:=hA 2 rfl
  try simp (disch:=first|exact dq|fail) only [go_sem,↓reduceIte] at p0 p1 p2
  obtain ⟨c0,c1,c2⟩:=lnA_at ok hs.1 hs.2 hi
  obtain ⟨c,ec⟩:∃ c,c=(lnA U s).getD i (-1):=⟨_,rfl⟩
  rw [← ec] at c0 c1 c2 hb
  obtain ⟨n,rfl⟩:=Int.eq_ofNat_of_zero_le c0
  rw [Int.toNat_natCast] at c2
  obtain ⟨H',e,k1,k2⟩:=hcb i H hi hj
  have k3:=k1 _ hb
  obtain ⟨g1,g2⟩:=hI _ _ (hJI _ _ k2).1
  obtain ⟨u1,u2,u3,_⟩:=g2.up c2
  have t1:((n:Int)=-1)=False:=eq_false (by omega)
  have os:=g2.one
  dsimp only at e
  rw [← ec] at e
  unfold intB at hb k3
  unfold pwB at g1
  have hsp:=@Nat.succ_ne_zero;repeat' (first|simp (disch:=first|exact dq|fail) only [go_sem,↓reduceIte,hsp,p0,p1,p2,hb,t1,e,k3,g1,u1,u2,u3]|refine WP_drw ?_|refine cnd_intro (fun hsp=>?_) fun hsp=>?_)
  exact ⟨agq,hset _ _ _ k2,by first|rfl|rw [List.getElem?_set_self (lt_of_get k3)];rfl⟩
 ·rintro fr H hA ⟨hj,hb⟩
  have p0:=hA 0 rfl
  have p1:=hA 1 rfl
  have p2:=hA 2 rfl
  try simp (disch:=first|exact dq|fail) only [go_sem,↓reduceIte] at p0 p1 p2
  have e:(lnA U s).getD (lnA U s).length (-1)=-1:=by rw [List.getD_eq_getElem?_getD,List.getElem?_eq_none (Nat.le_refl _)];rfl
  rw [e] at hb
  unfold intB at hb
  have hsp:=@Nat.succ_ne_zero;repeat' (first|simp (disch:=first|exact dq|fail) only [go_sem,↓reduceIte,hsp,p0,p1,p2,hb]|refine WP_drw ?_|refine cnd_intro (fun hsp=>?_) fun hsp=>?_)
  exact hj
end F4
end Go.AM
namespace Go.AM
namespace F4
def drv (P:Pwr) (s:Int) (k:Nat):Bool:=decide (s ∈ lnK P k)
def clrB (P:Pwr) (S:List Int) (s:Int):Bool:=(List.range S.length).any fun k=>decide (S.getD k 0=1) && drv P s k
def clrL (P:Pwr) (S:List Int):List Int:=(upto P.U.length).filter (clrB P S)
def hitB (P:Pwr) (l:List Int) (k:Nat):Bool:=l.any fun s=>drv P s k
def xplB (P:Pwr) (S l:List Int):Bool:=(List.range S.length).all fun k=>!(decide (S.getD k 0=1) && hitB P l k || decide (S.getD k 0=2) && !hitB P l k)
def fstX (n:Nat):List (List Int):=(List.range (n+1)).flatMap fun m=>lexC (upto n) m [] 0
def fstP (n:Nat) (p:List Int→Bool):Bool × Option (List Int):=visF p (fstX n) none
def slpM (P:Pwr) (S:List Int):List Int × Int:=if (fstP P.U.length (xplB P S)).1=true then ((fstP P.U.length (xplB P S)).2.getD [],0) else ([],7)
def opnL (P:Pwr) (S:List Int) (k:Nat):List Int:=(lnK P k).filter fun s=>!clrB P S s
def clsB (P:Pwr) (S:List Int):Bool:=(List.range S.length).any fun k=>decide (S.getD k 0=2) && decide ((opnL P S k).length=0)
def surN (P:Pwr) (S:List Int) (n:Nat):List Int:=selN (fun k=>decide (S.getD k 0=2) && decide ((opnL P S k).length=1)) (fun k=>(opnL P S k).getD 0 0) n
def prfL (P:Pwr) (S l:List Int):List Int:=l.flatMap fun k=>opnL P S k.toNat
def prfB (P:Pwr) (S l:List Int):Bool:=(l.all fun k=>decide (S.getD k.toNat 0=2)) && decide (prfL P S l).Nodup
def prvP (P:Pwr) (S:List Int) (m:Nat) (l:List Int):Bool:=decide (l.length=m) && prfB P S l
def prvN (P:Pwr) (S:List Int):Nat→List Int
 | 0=>[]
 | m+1=>if (fstP P.K.length (prvP P S m)).1=true then (fstP P.K.length (prvP P S m)).2.getD [] else prvN P S m
structure MOkS (P:Pwr) (S:List Int):Prop where
 ok:POk P
 len:S.length=P.K.length
 pos:1≤P.K.length
 val:∀ x ∈ S,0≤x∧x≤2
def ribO (P:Pwr) (s:Int):List Int:=(upto P.K.length).filter fun k=>drv P s k.toNat
def shfO (P:Pwr):List Int:=(upto P.U.length).filter fun s=>decide (0<(ribO P s).length)
def wvrO (S:List Int):List Int:=(upto S.length).filter fun k=>decide (S.getD k.toNat 0 ≠ 0)
def lomO (P:Pwr) (S:List Int):Lom:=⟨(P.K.length:Int),1,(shfO P).map fun s=>⟨ribO P s,1,0,false⟩,(wvrO S).map fun k=>⟨k,0,0,decide (S.getD k.toNat 0=2)⟩⟩
def nthS (P:Pwr) (b:Brk):Int:=(shfO P).getD b.1.toNat 0
def nthW (S:List Int) (i:Int):Int:=(wvrO S).getD i.toNat 0
def shl (P:Pwr) (t:List Brk):List Int:=t.map (nthS P)
def bks (P:Pwr) (l:List Int):List Brk:=((upto (shfO P).length).filter fun p=>decide ((shfO P).getD p.toNat 0 ∈ l)).map fun p=>(p,0,0)
theorem ext_rise:∀ {l m:List Int},l.Pairwise (·<·)→m.Pairwise (·<·)→(∀ x,x ∈ l ↔ x ∈ m)→l=m
 | [],[],_,_,_=>rfl
 | [],y :: m,_,_,h=>by have:=(h y).2 (by simp);cases this
 | x :: l,[],_,_,h=>by have:=(h x).1 (by simp);cases this
 | x :: l,y :: m,hl,hm,h=>by
  have e:x=y:=by
   have h1:=(h x).1 (by simp)
   have h2:=(h y).2 (by simp)
   rcases List.mem_cons.1 h1 with q|q
   ·exact q
   ·rcases List.mem_cons.1 h2 with r|r
    ·exact r.symm
    ·have:=List.rel_of_pairwise_cons hm q
     have:=List.rel_of_pairwise_cons hl r
     omega
  subst e
  congr 1
  refine ext_rise (List.pairwise_cons.1 hl).2 (List.pairwise_cons.1 hm).2 fun z=>⟨fun hz=>?_,fun hz=>?_⟩
  ·have:=List.rel_of_pairwise_cons hl hz
   rcases List.mem_cons.1 ((h z).1 (by simp [hz])) with q|q
   ·omega
   ·exact q
  ·have:=List.rel_of_pairwise_cons hm hz
   rcases List.mem_cons.1 ((h z).2 (by simp [hz])) with q|q
   ·omega
   ·exact q
theorem sub_upto {l:List Int} {n:Nat} (hl:l.Pairwise (·<·)) (hb:∀ x ∈ l,0≤x∧x<(n:Int)):l.Sublist (upto n):=by
 have e:l=(upto n).filter fun x=>decide (x ∈ l):=ext_rise hl ((upto_sorted n).filter _) fun x=>by
  rw [List.mem_filter,upto_mem,decide_eq_true_eq]
  exact ⟨fun h=>⟨hb x h,h⟩,fun h=>h.2⟩
 rw [e]
 exact List.filter_sublist
theorem map_getD {α β:Type} {f:α→β} {l:List α} {i:Nat} {d:α} {e:β} (h:i<l.length):(l.map f).getD i e=f (l.getD i d):=by
 rw [List.getD_eq_getElem?_getD,List.getD_eq_getElem?_getD,List.getElem?_map,List.getElem?_eq_getElem h]
 rfl
theorem sort_lt {l:List Int} (h:l.Pairwise (·<·)) {i k:Nat} (hk:k<l.length) (hik:i<k):l.getD i 0<l.getD k 0:=by
 have:=List.pairwise_iff_getElem.1 h i k (by omega) hk hik
 rwa [getD_at (by omega),getD_at hk]
theorem sort_inj {l:List Int} (h:l.Pairwise (·<·)) {i k:Nat} (hi:i<l.length) (hk:k<l.length) (e:l.getD i 0=l.getD k 0):i=k:=by
 rcases Nat.lt_trichotomy i k with q|q|q
 ·have:=sort_lt h hk q;omega
 ·exact q
 ·have:=sort_lt h hi q;omega
theorem mem_getD {l:List Int} {x:Int} (h:x ∈ l):∃ i,i<l.length∧l.getD i 0=x:=by
 obtain ⟨i,hi,rfl⟩:=List.getElem_of_mem h
 exact ⟨i,hi,getD_at hi⟩
theorem fstX_mem {n:Nat} {x:List Int}:x ∈ fstX n ↔ x.Sublist (upto n):=by
 unfold fstX
 rw [List.mem_flatMap]
 constructor
 ·rintro ⟨m,_,h⟩
  exact (lexC_all.1 h).1
 ·intro h
  have:=h.length_le
  rw [upto_len] at this
  exact ⟨x.length,List.mem_range.2 (by omega),lexC_all.2 ⟨h,rfl⟩⟩
theorem fstX_sorted {n:Nat}:(fstX n).Pairwise fun x y=>btL x y=true:=by
 unfold fstX
 rw [List.pairwise_flatMap]
 refine ⟨fun m _=>?_,?_⟩
 ·refine (List.Pairwise.and_mem.1 (lexC_sorted (upto_sorted n) m)).imp ?_
  rintro x y ⟨hx,hy,h⟩
  have a:=(lexC_all.1 hx).2
  have b:=(lexC_all.1 hy).2
  simp [btL,h,a,b]
 ·refine List.pairwise_lt_range.imp ?_
  intro a b hab x hx y hy
  have a:=(lexC_all.1 hx).2
  have b:=(lexC_all.1 hy).2
  unfold btL
  rw [Bool.or_eq_true,decide_eq_true_eq]
  exact .inl (by omega)
theorem fst_yes {n:Nat} {p:List Int→Bool} (h:(fstP n p).1=true):((fstP n p).2.getD []).Sublist (upto n)∧p ((fstP n p).2.getD [])=true∧∀ y:List Int,y.Sublist (upto n)→p y=true→y=(fstP n p).2.getD [] ∨ btL ((fstP n p).2.getD []) y=true:=by
 obtain ⟨x,e,m,a,b⟩:=visF_first fstX_sorted h
 have e2:(fstP n p).2.getD []=x:=by unfold fstP;rw [e];rfl
 rw [e2]
 exact ⟨fstX_mem.1 m,a,fun y hy hp=>b y (fstX_mem.2 hy) hp⟩
theorem fst_no {n:Nat} {p:List Int→Bool} (h:¬ (fstP n p).1=true):∀ y:List Int,y.Sublist (upto n)→p y=false:=fun y hy=>visF_none h y (fstX_mem.2 hy)
section
variable {P:Pwr} {S:List Int}
theorem drv_lt (ok:POk P) {s:Int} {k:Nat} (h:drv P s k=true):k<P.K.length∧0≤s∧s<(P.U.length:Int):=by
 have h:=of_decide_eq_true h
 unfold lnK at h
 by_cases hk:k<P.K.length
 ·have hm:=ok.s _ (getD_at (d:=(-1:Int)) hk ▸ List.getElem_mem hk)
  exact ⟨hk,lnA_mem ok.u (by omega) hm.2 h⟩
 ·rw [show P.K.getD k (-1)=-1 by rw [List.getD_eq_getElem?_getD,List.getElem?_eq_none (by omega)];rfl,lnA_neg (by omega)] at h
  cases h
theorem lnK_sorted (ok:POk P) {k:Nat}:(lnK P k).Pairwise (· > ·):=by
 unfold lnK
 by_cases hk:k<P.K.length
 ·have hm:=ok.s _ (getD_at (d:=(-1:Int)) hk ▸ List.getElem_mem hk)
  exact (lnA_sorted ok.u P.U.length _ hm.2 (by omega) hm.2).1
 ·rw [show P.K.getD k (-1)=-1 by rw [List.getD_eq_getElem?_getD,List.getElem?_eq_none (by omega)];rfl,lnA_neg (by omega)]
  exact .nil
theorem opnL_nodup (ok:POk P) {k:Nat}:(opnL P S k).Nodup:=((lnK_sorted ok).imp fun h=>by omega:(lnK P k).Nodup).sublist List.filter_sublist
theorem opnL_mem {k:Nat} {s:Int}:s ∈ opnL P S k ↔ drv P s k=true∧clrB P S s=false:=by
 unfold opnL drv
 rw [List.mem_filter,decide_eq_true_eq,Bool.not_eq_true']
theorem clrB_iff {s:Int}:clrB P S s=true ↔ ∃ k,k<S.length∧S.getD k 0=1∧drv P s k=true:=by
 unfold clrB
 rw [List.any_eq_true]
 constructor
 ·rintro ⟨k,hk,h⟩
  rw [Bool.and_eq_true,decide_eq_true_eq] at h
  exact ⟨k,List.mem_range.1 hk,h⟩
 ·rintro ⟨k,hk,h⟩
  exact ⟨k,List.mem_range.2 hk,by rw [Bool.and_eq_true,decide_eq_true_eq];exact h⟩
theorem hitB_iff {l:List Int} {k:Nat}:hitB P l k=true ↔ ∃ s ∈ l,drv P s k=true:=by
 unfold hitB
 rw [List.any_eq_true]
theorem xplB_iff {l:List Int}:xplB P S l=true ↔ ∀ k,k<S.length→(S.getD k 0=1→hitB P l k=false)∧(S.getD k 0=2→hitB P l k=true):=by
 unfold xplB
 rw [List.all_eq_true]
 constructor
 ·intro h k hk
  have:=h k (List.mem_range.2 hk)
  cases q:hitB P l k<;>simp [q] at this ⊢<;>omega
 ·intro h k hk
  have:=h k (List.mem_range.1 hk)
  cases q:hitB P l k<;>simp [q] at this ⊢<;>omega
theorem clsB_iff:clsB P S=true ↔ ∃ k,k<S.length∧S.getD k 0=2∧opnL P S k=[]:=by
 unfold clsB
 rw [List.any_eq_true]
 constructor
 ·rintro ⟨k,hk,h⟩
  rw [Bool.and_eq_true,decide_eq_true_eq,decide_eq_true_eq] at h
  exact ⟨k,List.mem_range.1 hk,h.1,List.eq_nil_of_length_eq_zero h.2⟩
 ·rintro ⟨k,hk,h1,h2⟩
  exact ⟨k,List.mem_range.2 hk,by rw [Bool.and_eq_true,decide_eq_true_eq,decide_eq_true_eq,h2];exact ⟨h1,rfl⟩⟩
theorem xpl_opn {l:List Int} (h:xplB P S l=true) {k:Nat} (hk:k<S.length) (h2:S.getD k 0=2):∃ s ∈ l,s ∈ opnL P S k:=by
 obtain ⟨s,hs,hd⟩:=hitB_iff.1 ((xplB_iff.1 h k hk).2 h2)
 refine ⟨s,hs,opnL_mem.2 ⟨hd,?_⟩⟩
 cases c:clrB P S s with
 | false=>rfl
 | true =>
  obtain ⟨j,hj,j1,j2⟩:=clrB_iff.1 c
  have:=(xplB_iff.1 h j hj).1 j1
  rw [hitB_iff.2 ⟨s,hs,j2⟩] at this
  cases this
theorem xpl_all (ok:POk P) {q:Int→Bool} (h:∀ k,k<S.length→S.getD k 0=2→∃ s ∈ opnL P S k,q s=true):xplB P S ((upto P.U.length).filter fun s=>!clrB P S s && q s)=true:=by
 rw [xplB_iff]
 refine fun k hk=>⟨fun h1=>?_,fun h2=>?_⟩
 ·cases c:hitB P ((upto P.U.length).filter fun s=>!clrB P S s && q s) k with
  | false=>rfl
  | true =>
   obtain ⟨s,hs,hd⟩:=hitB_iff.1 c
   have:=(List.mem_filter.1 hs).2
   rw [clrB_iff.2 ⟨k,hk,h1,hd⟩] at this
   simp at this
 ·obtain ⟨s,hs,hq⟩:=h k hk h2
  obtain ⟨a,b⟩:=opnL_mem.1 hs
  exact hitB_iff.2 ⟨s,List.mem_filter.2 ⟨upto_mem.2 (drv_lt ok a).2,by rw [b,hq];rfl⟩,a⟩
theorem cls_iff (ok:POk P):clsB P S=true ↔ ¬ ∃ l,xplB P S l=true:=by
 constructor
 ·rintro h ⟨l,hl⟩
  obtain ⟨k,hk,h2,e⟩:=clsB_iff.1 h
  obtain ⟨s,_,hs⟩:=xpl_opn hl hk h2
  rw [e] at hs
  cases hs
 ·intro h
  cases c:clsB P S with
  | true=>rfl
  | false =>
   refine absurd ⟨_,xpl_all ok (q:=fun _=>true) fun k hk h2=>?_⟩ h
   cases e:opnL P S k with
   | nil=>rw [clsB_iff.2 ⟨k,hk,h2,e⟩] at c;cases c
   | cons x l=>exact ⟨x,by simp,rfl⟩
theorem shfO_sorted:(shfO P).Pairwise (·<·):=(upto_sorted _).filter _
theorem wvrO_sorted:(wvrO S).Pairwise (·<·):=(upto_sorted _).filter _
theorem ribO_sorted {s:Int}:(ribO P s).Pairwise (·<·):=(upto_sorted _).filter _
theorem ribO_mem {s k:Int}:k ∈ ribO P s ↔ (0≤k∧k<(P.K.length:Int))∧drv P s k.toNat=true:=by
 unfold ribO
 rw [List.mem_filter,upto_mem]
theorem wvrO_mem {k:Int}:k ∈ wvrO S ↔ (0≤k∧k<(S.length:Int))∧S.getD k.toNat 0 ≠ 0:=by
 unfold wvrO
 rw [List.mem_filter,upto_mem,decide_eq_true_eq]
theorem shfO_mem (ok:POk P) {s:Int}:s ∈ shfO P ↔ ∃ k,drv P s k=true:=by
 unfold shfO
 rw [List.mem_filter,upto_mem,decide_eq_true_eq]
 constructor
 ·rintro ⟨_,h⟩
  obtain ⟨k,hk⟩:=List.exists_mem_of_length_pos h
  exact ⟨k.toNat,(ribO_mem.1 hk).2⟩
 ·rintro ⟨k,h⟩
  obtain ⟨a,b⟩:=drv_lt ok h
  exact ⟨b,List.length_pos_of_mem (ribO_mem.2 ⟨⟨by omega,by omega⟩,by rw [Int.toNat_natCast];exact h⟩:(k:Int) ∈ ribO P s)⟩
theorem lom_ps:(lomO P S).ps.length=(shfO P).length:=by simp [lomO]
theorem lom_ss:(lomO P S).ss.length=(wvrO S).length:=by simp [lomO]
theorem nthS_mem {b:Brk} (h:brkOk (lomO P S) b):nthS P b ∈ shfO P:=by
 have:=h.2.1
 rw [lom_ps] at this
 exact getD_mem (by have:=h.1;omega)
theorem prt_lom {b:Brk} (h:brkOk (lomO P S) b):prtOf (lomO P S) b=⟨ribO P (nthS P b),1,0,false⟩:=by
 have h1:=h.1
 have h2:=h.2.1
 rw [lom_ps] at h2
 exact map_getD (d:=0) (by omega)
theorem sgt_lom {i:Int} (h:0≤i∧i<((wvrO S).length:Int)):sgtI (lomO P S) i=⟨nthW S i,0,0,decide (S.getD (nthW S i).toNat 0=2)⟩ :=
 map_getD (d:=0) (by omega)
theorem nthW_mem {i:Int} (h:0≤i∧i<((wvrO S).length:Int)):nthW S i ∈ wvrO S:=getD_mem (by omega)
theorem brk_zero {b:Brk} (h:brkOk (lomO P S) b):b.2.1=0∧b.2.2=0:=by
 obtain ⟨_,_,a,c,d⟩:=h
 have:b.2.2<1:=d
 omega
theorem tch_lom (hM:MOkS P S) {b:Brk} (h:brkOk (lomO P S) b) {i:Int} (hi:0≤i∧i<((wvrO S).length:Int)):tch (lomO P S) b (sgtI (lomO P S) i) ↔ drv P (nthS P b) (nthW S i).toNat=true:=by
 unfold tch
 rw [prt_lom h,sgt_lom hi]
 have hw:=(wvrO_mem.1 (nthW_mem hi)).1
 have hl:=hM.len
 have hz:=brk_zero h
 constructor
 ·rintro ⟨a,_⟩
  exact (ribO_mem.1 a).2
 ·intro a
  exact ⟨ribO_mem.2 ⟨by show 0≤nthW S i∧nthW S i<(P.K.length:Int);omega,a⟩,0,by omega,by omega,Int.le_refl _,Int.le_refl _,rfl⟩
theorem bad_lom {i:Int} (hi:0≤i∧i<((wvrO S).length:Int)):badI (lomO P S) i=decide (S.getD (nthW S i).toNat 0=2):=by
 show (sgtI (lomO P S) i).bad=_
 rw [sgt_lom hi]
theorem bdT_lom (hM:MOkS P S) {t:List Brk} (h:truOk (lomO P S) t) {i:Int} (hi:0≤i∧i<((wvrO S).length:Int)):bdT (lomO P S) t (sgtI (lomO P S) i) ↔ hitB P (shl P t) (nthW S i).toNat=true:=by
 rw [hitB_iff]
 constructor
 ·rintro ⟨b,hb,q⟩
  exact ⟨nthS P b,List.mem_map.2 ⟨b,hb,rfl⟩,(tch_lom hM (h.2 b hb) hi).1 q⟩
 ·rintro ⟨s,hs,q⟩
  obtain ⟨b,hb,rfl⟩:=List.mem_map.1 hs
  exact ⟨b,hb,(tch_lom hM (h.2 b hb) hi).2 q⟩
theorem s_val (hM:MOkS P S) {k:Nat} (hk:k<S.length):0≤S.getD k 0∧S.getD k 0≤2:=hM.val _ (getD_mem hk)
theorem wvr_at {k:Nat} (hk:k<S.length) (h:S.getD k 0 ≠ 0):∃ i:Int,(0≤i∧i<((wvrO S).length:Int))∧nthW S i=(k:Int):=by
 obtain ⟨j,hj,e⟩:=mem_getD (wvrO_mem.2 ⟨⟨by omega,by omega⟩,by rw [Int.toNat_natCast];exact h⟩:(k:Int) ∈ wvrO S)
 exact ⟨(j:Int),⟨by omega,by omega⟩,by unfold nthW;rw [Int.toNat_natCast];exact e⟩
theorem xpA_lom (hM:MOkS P S) {t:List Brk} (h:truOk (lomO P S) t):XpA (lomO P S) t ↔ xplB P S (shl P t)=true:=by
 rw [xplB_iff]
 constructor
 ·rintro ⟨_,hx⟩ k hk
  have hv:S.getD k 0 ≠ 0→(hitB P (shl P t) k=true ↔ S.getD k 0=2):=fun h0=>by
   obtain ⟨i,hi,e⟩:=wvr_at hk h0
   have:=hx i (upto_mem.2 (by rw [lom_ss];exact hi))
   rw [bdT_lom hM h hi,bad_lom hi,e,Int.toNat_natCast,decide_eq_true_eq] at this
   exact this
  refine ⟨fun h1=>?_,fun h2=>(hv (by omega)).2 h2⟩
  cases c:hitB P (shl P t) k with
  | false=>rfl
  | true=>have:=(hv (by omega)).1 c;omega
 ·intro hx
  refine ⟨h,fun i hi=>?_⟩
  have hi:=upto_mem.1 hi
  rw [lom_ss] at hi
  rw [bdT_lom hM h hi,bad_lom hi,decide_eq_true_eq]
  have hw:=wvrO_mem.1 (nthW_mem hi)
  have hk:(nthW S i).toNat<S.length:=by omega
  have hx:=hx _ hk
  have hv:=s_val hM hk
  constructor
  ·intro a
   cases c:decide (S.getD (nthW S i).toNat 0=2) with
   | true=>exact of_decide_eq_true c
   | false =>
    have:=of_decide_eq_false c
    have:=hx.1 (by omega)
    rw [a] at this
    cases this
  ·exact hx.2
theorem bks_mem {l:List Int} {b:Brk}:b ∈ bks P l ↔ ∃ p:Int,(0≤p∧p<((shfO P).length:Int))∧(shfO P).getD p.toNat 0 ∈ l∧b=(p,0,0):=by
 unfold bks
 rw [List.mem_map]
 constructor
 ·rintro ⟨p,hp,rfl⟩
  rw [List.mem_filter,upto_mem,decide_eq_true_eq] at hp
  exact ⟨p,hp.1,hp.2,rfl⟩
 ·rintro ⟨p,a,c,rfl⟩
  exact ⟨p,by rw [List.mem_filter,upto_mem,decide_eq_true_eq];exact ⟨a,c⟩,rfl⟩
theorem bks_ok {l:List Int}:truOk (lomO P S) (bks P l):=by
 refine ⟨?_,fun b hb=>?_⟩
 ·unfold bks
  rw [List.pairwise_map]
  exact (upto_sorted _).filter _
 ·obtain ⟨p,a,_,rfl⟩:=bks_mem.1 hb
  exact ⟨a.1,by rw [lom_ps];exact a.2,Int.le_refl _,Int.le_refl _,by show (0:Int)<1;omega⟩
theorem shl_bks {l:List Int} {s:Int}:s ∈ shl P (bks P l) ↔ s ∈ shfO P∧s ∈ l:=by
 unfold shl
 rw [List.mem_map]
 constructor
 ·rintro ⟨b,hb,rfl⟩
  obtain ⟨p,a,c,rfl⟩:=bks_mem.1 hb
  exact ⟨getD_mem (by simp only;omega),c⟩
 ·rintro ⟨hs,hl⟩
  obtain ⟨i,hi,e⟩:=mem_getD hs
  exact ⟨((i:Int),0,0),bks_mem.2 ⟨(i:Int),⟨by omega,by omega⟩,by rw [Int.toNat_natCast,e];exact hl,rfl⟩,by unfold nthS;rw [Int.toNat_natCast];exact e⟩
theorem hit_bks (ok:POk P) {l:List Int} {k:Nat}:hitB P (shl P (bks P l)) k=hitB P l k:=by
 rw [Bool.eq_iff_iff,hitB_iff,hitB_iff]
 constructor
 ·rintro ⟨s,hs,hd⟩
  exact ⟨s,(shl_bks.1 hs).2,hd⟩
 ·rintro ⟨s,hs,hd⟩
  exact ⟨s,shl_bks.2 ⟨(shfO_mem ok).2 ⟨k,hd⟩,hs⟩,hd⟩
theorem xpA_bks (hM:MOkS P S) {l:List Int}:XpA (lomO P S) (bks P l) ↔ xplB P S l=true:=by
 rw [xpA_lom hM bks_ok]
 unfold xplB
 simp only [hit_bks hM.ok]
theorem ex_iff (hM:MOkS P S):(∃ t,XpA (lomO P S) t) ↔ ∃ l,xplB P S l=true :=
 ⟨fun ⟨t,h⟩=>⟨_,(xpA_lom hM h.1).1 h⟩,fun ⟨l,h⟩=>⟨_,(xpA_bks hM).2 h⟩⟩
theorem shl_sorted {t:List Brk} (h:truOk (lomO P S) t):(shl P t).Pairwise (·<·):=by
 unfold shl
 rw [List.pairwise_map]
 refine (List.Pairwise.and_mem.1 h.1).imp ?_
 rintro a b ⟨ha,hb,q⟩
 have a1:=(h.2 a ha).1
 have b1:=(h.2 b hb).1
 have b2:=(h.2 b hb).2.1
 rw [lom_ps] at b2
 exact sort_lt shfO_sorted (by omega) (by omega)
theorem shl_bd {t:List Brk} (h:truOk (lomO P S) t):∀ s ∈ shl P t,0≤s∧s<(P.U.length:Int):=by
 intro s hs
 obtain ⟨b,hb,rfl⟩:=List.mem_map.1 hs
 have:=nthS_mem (h.2 b hb)
 unfold shfO at this
 exact upto_mem.1 (List.mem_filter.1 this).1
theorem bks_len {l:List Int}:(bks P l).length≤l.length:=by
 have:=pigeon (R:=fun a b:Int=>a=b) (l:=shl P (bks P l)) (t:=l) ((shl_sorted (S:=[]) bks_ok).imp fun h=>by omega) (fun a ha=>⟨a,(shl_bks.1 ha).2,rfl⟩) (fun a _ c _ b _ h1 h2=>h1.trans h2.symm)
 simpa [shl] using this
theorem slip_law (hM:MOkS P S) (hc:chkM (lomO P S)=0) {t:List Brk} (ht:XpA (lomO P S) t) :
  (slpM P S).2=0∧(fewM (lomO P S)).1.length=(slpM P S).1.length∧XpA (lomO P S) (bks P (slpM P S).1)∧(bks P (slpM P S).1).length=(slpM P S).1.length∧(slpM P S).1.Sublist (upto P.U.length):=by
 obtain ⟨_,f2,f3⟩:=fewM_truth hc ht
 have hs:=sub_upto (shl_sorted f2.1) (shl_bd f2.1)
 have hx:=(xpA_lom hM f2.1).1 f2
 have h1:(fstP P.U.length (xplB P S)).1=true:=by
  cases c:(fstP P.U.length (xplB P S)).1 with
  | true=>rfl
  | false =>
   have:=fst_no (by rw [c];simp) _ hs
   rw [hx] at this
   cases this
 obtain ⟨a,b,d⟩:=fst_yes h1
 have e:slpM P S=((fstP P.U.length (xplB P S)).2.getD [],0):=by unfold slpM;rw [if_pos h1]
 rw [e]
 simp only
 obtain ⟨x,ex⟩:∃ x,x=(fstP P.U.length (xplB P S)).2.getD []:=⟨_,rfl⟩
 rw [← ex] at a b d ⊢
 have k1:x.length≤(fewM (lomO P S)).1.length:=by
  have hl:(shl P (fewM (lomO P S)).1).length=(fewM (lomO P S)).1.length:=by simp [shl]
  rcases d _ hs hx with q|q
  ·rw [← hl,q];exact Nat.le_refl _
  ·unfold btL at q
   rw [Bool.or_eq_true,decide_eq_true_eq,Bool.and_eq_true,decide_eq_true_eq] at q
   rcases q with q|q<;>omega
 have hb:=(xpA_bks hM).2 b
 have k2:=f3 _ hb
 have k3:=bks_len (P:=P) (l:=x)
 exact ⟨trivial,by omega,hb,by omega,a⟩
theorem slip_no (h:¬ ∃ l,xplB P S l=true):slpM P S=([],7):=by
 unfold slpM
 rw [if_neg]
 intro h1
 exact h ⟨_,(fst_yes h1).2.1⟩
end
end F4
end Go.AM
namespace Go.AM
namespace F4
structure Bij (n:Int) (p q:Int→Int):Prop where
 to:∀ i,0≤i∧i<n→(0≤p i∧p i<n)∧q (p i)=i
 fro:∀ i,0≤i∧i<n→(0≤q i∧q i<n)∧p (q i)=i
theorem Bij.symm {n:Int} {p q:Int→Int} (x:Bij n p q):Bij n q p:=⟨x.fro,x.to⟩
theorem Bij.inj {n:Int} {p q:Int→Int} (x:Bij n p q) {i k:Int} (hi:0≤i∧i<n) (hk:0≤k∧k<n) (e:p i=p k):i=k:=by
 rw [← (x.to i hi).2,e,(x.to k hk).2]
structure Ren (L M:Lom) (p q r w s u:Int→Int):Prop where
 hT:M.T=L.T
 hR:M.R=L.R
 hp:M.ps.length=L.ps.length
 hs:M.ss.length=L.ss.length
 pq:Bij (L.ps.length:Int) p q
 rw:Bij L.R r w
 su:Bij (L.ss.length:Int) s u
 rib:∀ i,0≤i∧i<(L.ps.length:Int)→∀ x ∈ (L.ps.getD i.toNat prt0).rib,0≤x∧x<L.R
 srib:∀ i,0≤i∧i<(L.ss.length:Int)→0≤(sgtI L i).rib∧(sgtI L i).rib<L.R
 part:∀ i,0≤i∧i<(L.ps.length:Int)→(M.ps.getD (p i).toNat prt0).each=(L.ps.getD i.toNat prt0).each∧(M.ps.getD (p i).toNat prt0).ph=(L.ps.getD i.toNat prt0).ph∧(M.ps.getD (p i).toNat prt0).wv=(L.ps.getD i.toNat prt0).wv ∧
  ∀ x,x ∈ (M.ps.getD (p i).toNat prt0).rib ↔ ∃ y ∈ (L.ps.getD i.toNat prt0).rib,x=r y
 sgt:∀ i,0≤i∧i<(L.ss.length:Int)→sgtI M (s i)=⟨r (sgtI L i).rib,(sgtI L i).lo,(sgtI L i).hi,(sgtI L i).bad⟩
section
variable {L M:Lom} {p q r w s u:Int→Int}
theorem Ren.symm (x:Ren L M p q r w s u):Ren M L q p w r u s where
 hT:=x.hT.symm
 hR:=x.hR.symm
 hp:=x.hp.symm
 hs:=x.hs.symm
 pq:=by rw [x.hp];exact x.pq.symm
 rw:=by rw [x.hR];exact x.rw.symm
 su:=by rw [x.hs];exact x.su.symm
 rib:=by
  intro k hk y hy
  rw [x.hp] at hk
  obtain ⟨h1,h2⟩:=x.pq.fro k hk
  have:=(x.part _ h1).2.2.2 y
  rw [h2] at this
  obtain ⟨z,hz,rfl⟩:=this.1 hy
  rw [x.hR]
  exact (x.rw.to z (x.rib _ h1 z hz)).1
 srib:=by
  intro k hk
  rw [x.hs] at hk
  obtain ⟨h1,h2⟩:=x.su.fro k hk
  have:=x.sgt _ h1
  rw [h2] at this
  rw [this,x.hR]
  exact (x.rw.to _ (x.srib _ h1)).1
 part:=by
  intro k hk
  rw [x.hp] at hk
  obtain ⟨h1,h2⟩:=x.pq.fro k hk
  obtain ⟨a,b,c,d⟩:=x.part _ h1
  rw [h2] at a b c d
  refine ⟨a.symm,b.symm,c.symm,fun y=>⟨fun hy=>⟨r y,(d _).2 ⟨y,hy,rfl⟩,((x.rw.to y (x.rib _ h1 y hy)).2).symm⟩,?_⟩⟩
  rintro ⟨z,hz,rfl⟩
  obtain ⟨y,hy,rfl⟩:=(d z).1 hz
  rw [(x.rw.to y (x.rib _ h1 y hy)).2]
  exact hy
 sgt:=by
  intro k hk
  rw [x.hs] at hk
  obtain ⟨h1,h2⟩:=x.su.fro k hk
  have:=x.sgt _ h1
  rw [h2] at this
  rw [this]
  simp only [(x.rw.to _ (x.srib _ h1)).2]
def mvB (p:Int→Int) (b:Brk):Brk:=(p b.1,b.2.1,b.2.2)
def mvT (p:Int→Int) (t:List Brk):List Brk:=(t.map (mvB p)).mergeSort fun a b=>decide (a.1≤b.1)
theorem selN_at {f:Nat→Bool} {g:Nat→Int} {x:Int}:∀ {n:Nat},x ∈ selN f g n→∃ i,i<n∧x=g i
 | 0,h=>by cases h
 | n+1,h=>by
  rw [selN,List.mem_append] at h
  rcases h with h|h
  ·obtain ⟨i,h1,h2⟩:=selN_at h
   exact ⟨i,by omega,h2⟩
  ·split at h
   ·exact ⟨n,by omega,List.mem_singleton.1 h⟩
   ·cases h
theorem selN_up {f:Nat→Bool} {g:Nat→Int}:∀ {n:Nat},(∀ i k,i<k→k<n→g i<g k)→(selN f g n).Pairwise (·<·)
 | 0,_=>.nil
 | n+1,h=>by
  rw [selN,List.pairwise_append]
  refine ⟨selN_up fun i k h1 h2=>h i k h1 (by omega),by split<;>simp,fun a ha b hb=>?_⟩
  obtain ⟨i,h1,rfl⟩:=selN_at ha
  split at hb
  ·rw [List.mem_singleton.1 hb];exact h i n h1 (by omega)
  ·cases hb
end
end F4
end Go.AM
