/-
  Contracts: a mill's error.
-/
import Derived.Test.YtcemgempgbjbeaaGreatU20
import Derived.Test.YtcemgempgbjbeaaGreatU16
set_option linter.unusedSimpArgs false
set_option linter.unusedVariables false
namespace Go.AM
open Go.Proofs.Tryz
attribute [-go_sem] put_ne put_same
attribute [local go_sem ↓] put_if
set_option maxHeartbeats 2000000 in
theorem run_sCheck {base:Nat} {h:Heap} {v:AVal} {M:Mil} (hM:MilAt h v M) (ok:MOk M):callL prog raw base (.fn 70 [] []) [v] h=some (.int .i64 0,h):=by
 obtain ⟨lv,wv,rfl,hL,hG⟩:=hM
 have o1:=hL.one
 have o2:=hG.one
 have b1:=ok.n
 have b2:=ok.g
 obtain ⟨G,eG⟩:∃ G,G=h++[mlB M.E lv wv]:=⟨_,rfl⟩
 have x0:Ext h G:=by rw [eG];exact .app .refl
 have g0:G[h.length]?=some (mlB M.E lv wv):=by rw [eG];exact get_eq rfl
 have lG:G.length=h.length+1:=by rw [eG];simp
 have n1:=(hL.ext x0).len (P:=prog) Fc.el84
 have n2:=(hG.ext x0).len (P:=prog) Fc.el85
 have t1:decide (1≤(M.L.length:Int)∧(M.L.length:Int)≤12)=true:=decide_eq_true (by omega)
 have t2:((M.G.length:Int) > 10)=False:=eq_false (by omega)
 have t3:decide (0≤(0:Int)∧(0:Int)≤50)=true:=by decide
 have e1:=fun base=>every_SG (base:=base) (g:=.fn 158 [] []) (fun _=>true) (hG.ext x0) (fun base Z x hx=>run_bounded (ok.w x hx)) ⟨rfl,rfl,rfl⟩
 have e2:=fun base=>every_SL (base:=base) (g:=.fn 160 [] []) (fun _=>true) (hL.ext x0) (fun base Z x hx=>run_sck1 (ok.k x hx)) ⟨rfl,rfl,rfl⟩
 have hall:∀ {α:Type} {l:List α},(l.all fun _=>true)=true:=fun {α l}=>by simp
 rw [hall] at e1 e2
 rw [ok.E] at eG g0
 unfold mlB at eG g0
 rw [ok.E]
 refine callL_run func70 rfl rfl ?_
 have hsp:=@Nat.succ_ne_zero;repeat' (first|simp (disch:=first|exact dqb|fail) only [go_sem,↓reduceIte,hsp,← eG,g0,n1,t1,n2,t2,t3,e1,e2]|refine WP_drw ?_|refine cnd_intro (fun hsp=>?_) fun hsp=>?_)
 refine WP_count [(2,4),(36,47)] 0 M.L.length (Nat.zero_le _) (fun _ i fr h'=>fr 36=.int .i64 (i:Int)∧Ext G h') ?_ ?_ ?_
 ·exact ⟨by (simp (disch:=first|exact dqb|fail) only [go_sem,↓reduceIte,Int.natCast_zero];first|done|rfl),.refl⟩
 ·rintro i fr H hi0 hi hAg ⟨p36,xH⟩
  have p1:=hAg 1 rfl
  have p34:=hAg 34 rfl
  have p35:=hAg 35 rfl
  try simp (disch:=first|exact dqb|fail) only [go_sem,↓reduceIte] at p1 p34 p35
  have hlt:((i:Int)<(M.L.length:Int))=True:=eq_true (by omega)
  obtain ⟨x,hx⟩:∃ x,M.L[i]?=some x:=⟨_,List.getElem?_eq_getElem hi⟩
  have fx:=ok.f i x hx
  have rH:=hL.ext (x0.trans xH)
  have lH:=(x0.trans xH).len
  have a:=rH.addr (P:=prog) (i:=(i:Int)) Fc.el84 Fc.ar84 (by omega) (by omega)
  rw [Int.toNat_natCast] at a
  have d:loadP prog H 83 (elAdr lv encS.z i 0)=some (.agg [.int .i64 x.1,.int .i64 x.2]):=rH.load Fc.ty83 hx
  have t4:decide (-1≤x.1∧x.1≤(i:Int)-1)=true:=decide_eq_true fx
  have hsp:=@Nat.succ_ne_zero;repeat' (first|simp (disch:=first|exact dqb|fail) only [go_sem,↓reduceIte,hsp,p1,p34,p35,p36,hlt,a,d,t4]|refine WP_drw ?_|refine cnd_intro (fun hsp=>?_) fun hsp=>?_)
  exact ⟨agq,by omega,xH.app⟩
 ·rintro fr H hAg ⟨p36,xH⟩
  have p1:=hAg 1 rfl
  have p34:=hAg 34 rfl
  have p35:=hAg 35 rfl
  try simp (disch:=first|exact dqb|fail) only [go_sem,↓reduceIte] at p1 p34 p35
  have hlt:((M.L.length:Int)<(M.L.length:Int))=False:=eq_false (by omega)
  have gH:=xH.get g0
  have x2:=x0.trans xH
  have lH:=x2.len
  obtain ⟨K,eK⟩:∃ K,K=H++[(⟨.cells [.fn 152 [.agg [.int .i64 0,lv,wv]] []] 132 false false,0⟩:ABlk)]:=⟨_,rfl⟩
  have xK:Ext H K:=by rw [eK];exact .app .refl
  have kK:K[H.length]?=some ⟨.cells [.fn 152 [.agg [.int .i64 0,lv,wv]] []] 132 false false,0⟩:=by rw [eK];exact get_eq rfl
  have gK:=xK.get gH
  have rG:=hG.ext (x2.trans xK)
  have rL:=hL.ext (x2.trans xK)
  have e3:=fun base=>every_SG (base:=base) (g:=.fn 161 [] [.ptr (some ⟨H.length,0,0⟩)]) (fun _=>true) rG (fun base Z x hx=>run_sck2 (E:=0) rL.app o2 b1.2 (ok.w x hx) (get_app kK)) ⟨rfl,rfl,rfl⟩
  have e4:=fun base=>every_SG (base:=base) (g:=.fn 162 [] []) (fun _=>true) rG (fun base Z x hx=>run_sck3 (ok.w x hx)) ⟨rfl,rfl,rfl⟩
  rw [hall] at e3 e4
  have hsp:=@Nat.succ_ne_zero;repeat' (first|simp (disch:=first|exact dqb|fail) only [go_sem,↓reduceIte,hsp,p1,p34,p35,p36,hlt,gH,← eK,gK,e3,e4]|refine WP_drw ?_|refine cnd_intro (fun hsp=>?_) fun hsp=>?_)
  exact fI rfl (x2.trans xK)
end Go.AM
namespace Go.AM
open Go.Proofs.Tryz
attribute [-go_sem] put_ne put_same
attribute [local go_sem ↓] put_if
def mpS (es:List (Int × AVal)):List (AVal × AVal):=es.map fun e=>(.int .i64 e.1,e.2)
def lkS:List (Int × AVal)→Int→AVal
 | [],_=>.slice none 0 0
 | (j,v) :: es,k=>if k=j then v else lkS es k
def ptS:List (Int × AVal)→Int→AVal→List (Int × AVal)
 | [],k,v=>[(k,v)]
 | (j,w) :: es,k,v=>if k=j then (k,v) :: es else (j,w) :: ptS es k v
def ixS:List (Int × AVal)→Int→Option Nat
 | [],_=>none
 | (j,_) :: es,k=>if k=j then some 0 else (ixS es k).map (·+1)
theorem lk_upS {k j:Int} {v:AVal}:∀ {es:List (Int × AVal)},lkS (ptS es k v) j=if j=k then v else lkS es j
 | []=>rfl
 | (i,w) :: es=>by
  have ih:=lk_upS (k:=k) (j:=j) (v:=v) (es:=es)
  simp only [ptS]
  by_cases h:k=i
  ·rw [if_pos h]
   simp only [lkS]
   split
   ·rfl
   ·rename_i h2
    rw [if_neg (fun q=>h2 (q.trans h.symm))]
  ·rw [if_neg h]
   simp only [lkS,ih]
   by_cases h2:j=i
   ·rw [if_pos h2,if_pos h2,if_neg (fun q=>h (q.symm.trans h2))]
   ·rw [if_neg h2,if_neg h2]
theorem ixS_none {k:Int} {v:AVal}:∀ {es:List (Int × AVal)},ixS es k=none→lkS es k=.slice none 0 0∧ptS es k v=es++[(k,v)]
 | [],_=>⟨rfl,rfl⟩
 | (j,w) :: es,h=>by
  simp only [ixS] at h
  split at h
  ·cases h
  ·rename_i q
   cases hx:ixS es k with
   | some i=>rw [hx] at h;cases h
   | none =>
    obtain ⟨h1,h2⟩:=ixS_none (v:=v) hx
    simp only [lkS,ptS,if_neg q,h1,h2,List.cons_append]
    exact ⟨trivial,trivial⟩
theorem ixS_some {k:Int} {i:Nat} {v:AVal}:∀ {es:List (Int × AVal)} {i:Nat},ixS es k=some i→es[i]?=some (k,lkS es k)∧ptS es k v=es.set i (k,v)
 | [],_,h=>by cases h
 | (j,w) :: es,i,h=>by
  simp only [ixS] at h
  split at h
  ·rename_i q
   cases h
   subst q
   simp [lkS,ptS]
  ·rename_i q
   cases hx:ixS es k with
   | none=>rw [hx] at h;cases h
   | some i' =>
    rw [hx] at h
    cases h
    obtain ⟨h1,h2⟩:=ixS_some (i:=i) (v:=v) hx
    simp only [lkS,ptS,if_neg q,h1,h2,List.getElem?_cons_succ,List.set_cons_succ]
    exact ⟨trivial,trivial⟩
theorem eqS {a b:Int}:eqT prog eqDepth 3 (.int .i64 a) (.int .i64 b)=some (decide (a=b)):=by
 by_cases h:a=b<;>simp [eqT,eqDepth,h]
theorem find_S {k:Int}:∀ {es:List (Int × AVal)},findA prog 3 (.int .i64 k) (mpS es)=some (ixS es k)
 | []=>rfl
 | (j,w) :: es=>by
  have ih:=find_S (k:=k) (es:=es)
  simp only [mpS,List.map_cons,findA,eqS,ixS]
  by_cases h:k=j
  ·rw [h];simp
  ·rw [decide_eq_false (by omega),if_neg h]
   simp only
   rw [show findA prog 3 (.int .i64 k) (es.map fun e=>(AVal.int .i64 e.1,e.2))=_ from ih]
   rfl
theorem zvS:zvA prog 35=some (.slice none 0 0):=by kernel_rfl
theorem look_S {H:Heap} {m:Nat} {k:Int} {es:List (Int × AVal)} (hm:H[m]?=some ⟨.map (mpS es),0⟩):lookupA prog H 174 (.map (some m)) (.int .i64 k) false=some (lkS es k):=by
 simp only [lookupA,Fc.mp174,entriesA,hm,keyI,if_true,find_S]
 cases hx:ixS es k with
 | none=>simp only [zvS,(ixS_none (v:=.emp) hx).1];rfl
 | some i =>
  have h1:=(ixS_some (i:=i) (v:=.emp) hx).1
  simp only [mpS,List.getElem?_map,h1,Option.map_some]
  rfl
theorem upd_S {base:Nat} {H:Heap} {m:Nat} {k:Int} {es:List (Int × AVal)} {v:AVal} (hb:base≤m) (hm:H[m]?=some ⟨.map (mpS es),0⟩):mapUpdateA prog base H 174 (.map (some m)) (.int .i64 k) v=some (H.set m ⟨.map (mpS (ptS es k v)),0⟩):=by
 simp only [mapUpdateA,Fc.mp174,hm,keyI,find_S]
 rw [if_pos ⟨trivial,.inl hb⟩]
 cases hx:ixS es k with
 | none=>simp only [(ixS_none (v:=v) hx).2,mpS,List.map_append,List.map_cons,List.map_nil]
 | some i =>
  obtain ⟨h1,h2⟩:=ixS_some (i:=i) (v:=v) hx
  have e1:((mpS es)[i]?).map (·.1)=some (.int .i64 k):=by
   simp only [mpS,List.getElem?_map,h1,Option.map_some]
  simp only
  rw [if_pos e1,h2]
  simp only [mpS,List.map_set]
end Go.AM
namespace Go.AM
open Go.Proofs.Tryz
attribute [-go_sem] put_ne put_same
attribute [local go_sem ↓] put_if
def Star (M:Mil):Prop:=∀ (i:Nat) x,M.L[i]?=some x→x.1=if i=0 then -1 else 0
def rng (n:Nat):List Int:=(List.range n).map fun i:Nat=>(i:Int)+1
theorem rng_succ {n:Nat}:rng (n+1)=rng n++[((n+1:Nat):Int)]:=by
 unfold rng
 rw [List.range_succ,List.map_append]
 rfl
theorem rng_len {n:Nat}:(rng n).length=n:=by simp [rng]
theorem rng_mem {n:Nat} {x:Int} (h:x ∈ rng n):1≤x∧x≤(n:Int):=by
 unfold rng at h
 obtain ⟨i,hi,rfl⟩:=List.mem_map.1 h
 rw [List.mem_range] at hi
 omega
theorem rng_at {n i:Nat} (h:i<n):(rng n).getD i 0=(i:Int)+1:=by
 unfold rng
 rw [List.getD_eq_getElem?_getD,List.getElem?_map,List.getElem?_range h]
 rfl
abbrev dkB (lv wv:AVal) (m:Nat):ABlk:=⟨.cells [.int .i64 0,lv,wv,.map (some m)] 176 false false,0⟩
def DeskS (H:Heap) (id:Nat) (M:Mil):Prop:=∃ lv wv m es,H[id]?=some (dkB lv wv m)∧H[m]?=some ⟨.map (mpS es),0⟩∧Rows encS H lv M.L∧Rows encG H wv M.G∧Ints H (lkS es (-1)) [0]∧Ints H (lkS es 0) (rng (M.L.length-1))∧∀ j:Int,1≤j→lkS es j=.slice none 0 0
theorem DeskS.ext {H H':Heap} {id:Nat} {M:Mil} (x:DeskS H id M) (e:Ext H H'):DeskS H' id M:=by
 obtain ⟨lv,wv,m,es,a,b,c,d,f,g,k⟩:=x
 exact ⟨lv,wv,m,es,e.get a,e.get b,c.ext e,d.ext e,f.ext e,g.ext e,k⟩
def DeskW (b:Nat) (H:Heap) (id:Nat) (M:Mil) (v:AVal):Prop:=∃ lv wv m es,v=.agg [.int .i64 0,lv,wv]∧H[id]?=some (dkB lv wv m)∧H[m]?=some ⟨.map (mpS es),0⟩∧b≤id∧b≤m∧Own encI 3 b H (lkS es (-1)) [0]∧Own encI 3 b H (lkS es 0) (rng (M.L.length-1))∧∀ j:Int,1≤j→lkS es j=.slice none 0 0
theorem DeskW.ext {b:Nat} {H H':Heap} {id:Nat} {M:Mil} {v:AVal} (x:DeskW b H id M v) (e:Ext H H'):DeskW b H' id M v:=by
 obtain ⟨lv,wv,m,es,q,a,c,d,f,g,k,l⟩:=x
 exact ⟨lv,wv,m,es,q,e.get a,e.get c,d,f,g.ext e,k.ext e,l⟩
theorem DeskW.set {b i:Nat} {H:Heap} {id:Nat} {M:Mil} {v:AVal} {k:ABlk} (x:DeskW b H id M v) (hi:i<b):DeskW b (H.set i k) id M v:=by
 obtain ⟨lv,wv,m,es,q,a,c,d,f,g,k,l⟩:=x
 exact ⟨lv,wv,m,es,q,by rw [List.getElem?_set_ne (by omega)];exact a,by rw [List.getElem?_set_ne (by omega)];exact c,d,f,g.set hi,k.set hi,l⟩
theorem DeskW.desk {b:Nat} {H:Heap} {id:Nat} {M:Mil} {v:AVal} (x:DeskW b H id M v) (hM:MilAt H v M) (hE:M.E=0) (hl:M.L.length≤100):DeskS H id M:=by
 obtain ⟨lv,wv,m,es,q,a,c,d,f,g,k,l⟩:=x
 obtain ⟨lv',wv',q',r1,r2⟩:=hM
 rw [q'] at q
 simp only [AVal.agg.injEq,List.cons.injEq,and_true] at q
 obtain ⟨_,rfl,rfl⟩:=q
 exact ⟨_,_,m,es,a,c,r1,r2,own_ints g ⟨by simp,by decide⟩,own_ints k ⟨by rw [rng_len];omega,fun y hy=>by have:=rng_mem hy;omega⟩,l⟩
theorem stT34 {base:Nat} {l:List Oper} {s:St} {Q:AExit→St→Prop}:WP prog raw base (.region 8 l.toArray true) s Q=WPS prog raw base (.region 8 l.toArray true) s Q:=WP_stop
attribute [local go_sem ↓ 3000] stT34
set_option maxHeartbeats 4000000 in
theorem run_sopened {base:Nat} {h:Heap} {v:AVal} {M:Mil} (hb:base≤h.length) (hM:MilAt h v M) (ok:MOk M) (hs:Star M) :
  Ret prog raw base (.fn 151 [] []) [v] h (fun w H=>Ext h H∧∃ id,w=.tuple [.ptr (some ⟨id,0,0⟩),.int .i64 0]∧DeskS H id M∧DeskW h.length H id M v):=by
 obtain ⟨lv,wv,rfl,hL,hG⟩:=hM
 rw [ok.E]
 have o1:=hL.one
 have o2:=hG.one
 have b1:=ok.n
 obtain ⟨G0,eG0⟩:∃ G0,G0=h++[mlB 0 lv wv]:=⟨_,rfl⟩
 have x0:Ext h G0:=by rw [eG0];exact .app .refl
 have g0:G0[h.length]?=some (mlB 0 lv wv):=by rw [eG0];exact get_eq rfl
 have l0:G0.length=h.length+1:=by rw [eG0];simp
 have ck:=fun base=>run_sCheck (base:=base) (h:=G0) (v:=.agg [.int .i64 0,lv,wv]) (M:=M) ⟨lv,wv,by rw [ok.E],hL.ext x0,hG.ext x0⟩ ok
 obtain ⟨G,eG⟩:∃ G,G=G0++[⟨.map [],0⟩]++[dkB lv wv G0.length]:=⟨_,rfl⟩
 have xG:Ext G0 G:=by rw [eG];exact .app (.app .refl)
 have lG:G.length=h.length+3:=by rw [eG];simp [l0]
 have gm:G[G0.length]?=some ⟨.map (mpS []),0⟩:=by rw [eG];exact get_app (get_eq rfl)
 have gd:G[G0.length+1]?=some (dkB lv wv G0.length):=by rw [eG];exact get_eq (by simp)
 have gb:=xG.get g0
 have n1:=(hL.ext (x0.trans xG)).len (P:=prog) Fc.el84
 unfold mlB at eG0 g0 gb
 unfold dkB at eG
 refine ret_raw func151 rfl (by kernel_rfl) ?_
 have hsp:=@Nat.succ_ne_zero;repeat' (first|simp (disch:=first|exact dqb|fail) only [go_sem,↓reduceIte,hsp,← eG0,g0,ck,← eG,gb,n1]|refine WP_drw ?_|refine cnd_intro (fun hsp=>?_) fun hsp=>?_)
 refine WP_count [(6,7),(20,41)] 0 M.L.length (Nat.zero_le _) (fun _ i fr h'=>fr 20=.int .i64 (i:Int)∧∃ es,Ext G0 h'∧h'[G0.length]?=some ⟨.map (mpS es),0⟩∧h'[G0.length+1]?=some (dkB lv wv G0.length)∧Own encI 3 (h.length+3) h' (lkS es (-1)) (if i=0 then [] else [0])∧Own encI 3 (h.length+3) h' (lkS es 0) (rng (i-1))∧Asun (lkS es (-1)) (lkS es 0)∧∀ j:Int,1≤j→lkS es j=.slice none 0 0) ?_ ?_ ?_
 ·exact ⟨by (simp (disch:=first|exact dqb|fail) only [go_sem,↓reduceIte,Int.natCast_zero];first|done|rfl),[],xG,gm,gd,Own.nil,Own.nil,Asun.nil,fun j _=>rfl⟩
 ·rintro i fr H hi0 hi hAg ⟨p20,es,xH,mH,dH,oA,oB,hAs,hno⟩
  have p2:=hAg 2 rfl
  have p3:=hAg 3 rfl
  have p5:=hAg 5 rfl
  have p18:=hAg 18 rfl
  have p19:=hAg 19 rfl
  try simp (disch:=first|exact dqb|fail) only [go_sem,↓reduceIte] at p2 p3 p5 p18 p19
  have hlt:((i:Int)<(M.L.length:Int))=True:=eq_true (by omega)
  have lH:=lt_of_get dH
  obtain ⟨x,hx⟩:∃ x,M.L[i]?=some x:=⟨_,List.getElem?_eq_getElem hi⟩
  have rH:=hL.ext (x0.trans xH)
  have a:=rH.addr (P:=prog) (i:=(i:Int)) Fc.el84 Fc.ar84 (by omega) (by omega)
  rw [Int.toNat_natCast] at a
  have d:loadP prog H 83 (elAdr lv encS.z i 0)=some (.agg [.int .i64 x.1,.int .i64 x.2]):=rH.load Fc.ty83 hx
  obtain ⟨K,eK⟩:∃ K,K=H++[(⟨.cells [.int .i64 x.1,.int .i64 x.2] 83 false false,0⟩:ABlk)]:=⟨_,rfl⟩
  have xK:Ext H K:=by rw [eK];exact .app .refl
  have lK:K.length=H.length+1:=by rw [eK];simp
  have kx:K[H.length]?=some ⟨.cells [.int .i64 x.1,.int .i64 x.2] 83 false false,0⟩:=by rw [eK];exact get_eq rfl
  have km:=xK.get mH
  have kd:=xK.get dH
  have lk:=look_S (k:=x.1) km
  have key:∃ u' K2,appendA prog base K 35 (lkS es x.1) (.vals [.int .i64 (i:Int)])=some (u',K2)∧One u'∧K.length≤K2.length∧(∀ G,G.length≤h.length+3→Ext G K→Ext G K2)∧KeepO encI 3 K K2 ∧
    Own encI 3 (h.length+3) K2 (lkS (ptS es x.1 u') (-1)) [0]∧Own encI 3 (h.length+3) K2 (lkS (ptS es x.1 u') 0) (rng i)∧Asun (lkS (ptS es x.1 u') (-1)) (lkS (ptS es x.1 u') 0)∧∀ j:Int,1≤j→lkS (ptS es x.1 u') j=.slice none 0 0:=by
   have hx1:=hs i x hx
   by_cases c:i=0
   ·subst c
    rw [if_pos rfl] at hx1 oA
    rw [hx1]
    obtain ⟨u',K2,e1,q1,q2,q3,q4,q5,q6,q7⟩:=app_two (base:=base) (x:=((0:Nat):Int)) (oA.ext xK) (oB.ext xK) hAs (by omega) (by omega) (by simp) (by omega)
    refine ⟨u',K2,e1,q4,q5,q6,q7,?_,?_,?_,fun j hj=>?_⟩
    ·rw [lk_upS,if_pos rfl];exact q1
    ·rw [lk_upS,if_neg (by omega)];exact q2
    ·rw [lk_upS,if_pos rfl,lk_upS,if_neg (by omega)];exact q3
    ·rw [lk_upS,if_neg (by omega)];exact hno j hj
   ·rw [if_neg c] at hx1 oA
    rw [hx1]
    obtain ⟨u',K2,e1,q1,q2,q3,q4,q5,q6,q7⟩:=app_two (base:=base) (x:=(i:Int)) (oB.ext xK) (oA.ext xK) hAs.symm (by omega) (by omega) (by rw [rng_len];omega) (by omega)
    refine ⟨u',K2,e1,q4,q5,q6,q7,?_,?_,?_,fun j hj=>?_⟩
    ·rw [lk_upS,if_neg (by omega)];exact q2
    ·rw [lk_upS,if_pos rfl]
     obtain ⟨i',rfl⟩:∃ i',i=i'+1:=⟨i-1,by omega⟩
     rw [rng_succ]
     exact q1
    ·rw [lk_upS,if_neg (by omega),lk_upS,if_pos rfl];exact q3.symm
    ·rw [lk_upS,if_neg (by omega)];exact hno j hj
  obtain ⟨u',K2,ea,o',l2,eE,kp,oA',oB',hAs',hno'⟩:=key
  have km2:K2[G0.length]?=some ⟨.map (mpS es),0⟩:=kp _ _ km fun l' ver q=>by simp [rowE] at q
  have kd2:=kp.box kd
  have kx2:=kp.box kx
  have up:=upd_S (base:=base) (k:=x.1) (v:=u') (by omega) km2
  have ol:One (lkS es x.1):=by
   have hx1:=hs i x hx
   split at hx1
   ·rw [hx1];exact oA.one
   ·rw [hx1];exact oB.one
  unfold dkB at kd kd2
  have hsp:=@Nat.succ_ne_zero;repeat' (first|simp (disch:=first|exact dqb|fail) only [go_sem,↓reduceIte,hsp,p2,p3,p5,p18,p19,p20,hlt,a,d,← eK]|refine WP_drw ?_|refine cnd_intro (fun hsp=>?_) fun hsp=>?_)
  refine WPS_go ?_
  refine WP_wild [⟨3,174,27,⟨G0.length+1,0,3⟩,.map (some G0.length),16⟩,⟨5,3,29,⟨H.length,0,0⟩,.int .i64 x.1,16⟩] (by kernel_rfl) (by kernel_rfl) (by kernel_rfl) ⟨by simp [refsLow,AVal.refs];omega,refsLow_int,trivial⟩ fun KK hK=>?_
  iterate 17
   rw [TRS_cons]
   refine ⟨by first|(simp (disch:=first|exact dqb|fail) only [go_sem,↓reduceIte,p2,p3,p5,p18,p19,p20,kd,kx,lk,ea,kd2,kx2,up,ldsQ_cons,ldsQ_nil,grdQ_cons,grdQ_nil,if_true,Nat.reduceLeDiff];done)|exact trivial,?_⟩
   simp (disch:=first|exact dqb|fail) only [go_sem,↓reduceIte,p2,p3,p5,p18,p19,p20,kd,kx,lk,ea,kd2,kx2,up]
  rw [TRS_nil]
  refine ⟨by first|(simp (disch:=first|exact dqb|fail) only [go_sem,↓reduceIte,p2,p3,p5,p18,p19,p20,kd,kx,lk,ea,kd2,kx2,up,ldsQ_cons,ldsQ_nil,grdQ_cons,grdQ_nil,if_true,Nat.reduceLeDiff];done)|exact trivial,?_⟩
  subst hK
  have hsp:=@Nat.succ_ne_zero;repeat' (first|simp (disch:=first|exact dqb|fail) only [go_sem,↓reduceIte,hsp,p2,p3,p5,p18,p19,p20]|refine WP_drw ?_|refine cnd_intro (fun hsp=>?_) fun hsp=>?_)
  have ld2:=lt_of_get kd2
  refine ⟨agq,by omega,ptS es x.1 u',(eE G0 (by omega) (xH.trans xK)).set (Nat.le_refl _),rfl,kd2,oA'.set (by omega),?_,hAs',hno'⟩
  first|exact oB'.set (by omega)|(rw [Nat.add_sub_cancel];exact oB'.set (by omega))
 ·rintro fr H hAg ⟨p20,es,xH,mH,dH,oA,oB,hAs,hno⟩
  have p2:=hAg 2 rfl
  have p3:=hAg 3 rfl
  have p5:=hAg 5 rfl
  have p18:=hAg 18 rfl
  have p19:=hAg 19 rfl
  try simp (disch:=first|exact dqb|fail) only [go_sem,↓reduceIte] at p2 p3 p5 p18 p19
  have hlt:((M.L.length:Int)<(M.L.length:Int))=False:=eq_false (by omega)
  rw [if_neg (by omega)] at oA
  have hsp:=@Nat.succ_ne_zero;repeat' (first|simp (disch:=first|exact dqb|fail) only [go_sem,↓reduceIte,hsp,p2,p3,p5,p18,p19,p20,hlt]|refine WP_drw ?_|refine cnd_intro (fun hsp=>?_) fun hsp=>?_)
  have dw:DeskW h.length H (G0.length+1) M (.agg [.int .i64 0,lv,wv]):=⟨lv,wv,G0.length,es,rfl,dH,mH,by omega,by omega,oA.low (by omega),oB.low (by omega),hno⟩
  exact ⟨x0.trans xH,G0.length+1,rfl,⟨lv,wv,G0.length,es,dH,mH,hL.ext (x0.trans xH),hG.ext (x0.trans xH),own_ints oA ⟨by simp,by decide⟩,own_ints oB ⟨by rw [rng_len];omega,fun y hy=>by have:=rng_mem hy;omega⟩,hno⟩,dw⟩
end Go.AM
namespace Go.AM
open Go.Proofs.Tryz
attribute [-go_sem] put_ne put_same
attribute [local go_sem ↓] put_if
theorem run_cloneL {base:Nat} {h:Heap} {v:AVal} {l:List (Int × Int)} (hb:base≤h.length) (hR:Rows encS h v l) (hl:l ≠ []) (hs:l.length≤1000) :
  Ret prog raw base (.fn 155 [] []) [v] h (fun w H=>Ext h H∧Own encS 83 h.length H w l):=by
 have o:=hR.one
 have ha:=fun base=>app_empE (base:=base) hR hl encS_sc (by omega) Fc.el84
 rcases hR.nilEq2 (P:=prog) Fc.un84 with ⟨_,e,_⟩|e
 ·exact absurd e hl
 ·refine ret_raw func155 rfl (by kernel_rfl) ?_
  have hsp:=@Nat.succ_ne_zero;repeat' (first|simp (disch:=first|exact dqb|fail) only [go_sem,↓reduceIte,hsp,e,bs_emp Fc.el84,ha]|refine WP_drw ?_|refine cnd_intro (fun hsp=>?_) fun hsp=>?_)
  exact ⟨.app .refl,.inr ⟨h.length,0,rfl,get_eq rfl,Nat.le_refl _,List.length_pos_iff.2 hl⟩⟩
theorem run_cloneP {base:Nat} {h:Heap} {v:AVal} {l:List (Int × Int)} (hb:base≤h.length) (hR:Rows encS h v l) (hl:l ≠ []) (hs:l.length≤1000) :
  Ret prog raw base (.fn 72 [] []) [v] h (fun w H=>Ext h H∧Own encS 80 h.length H w l):=by
 have o:=hR.one
 have ha:=fun base=>app_empE (base:=base) hR hl encS_sc (by omega) Fc.el76
 rcases hR.nilEq2 (P:=prog) Fc.un76 with ⟨_,e,_⟩|e
 ·exact absurd e hl
 ·refine ret_raw func72 rfl (by kernel_rfl) ?_
  have hsp:=@Nat.succ_ne_zero;repeat' (first|simp (disch:=first|exact dqb|fail) only [go_sem,↓reduceIte,hsp,e,bs_emp Fc.el76,ha]|refine WP_drw ?_|refine cnd_intro (fun hsp=>?_) fun hsp=>?_)
  exact ⟨.app .refl,.inr ⟨h.length,0,rfl,get_eq rfl,Nat.le_refl _,List.length_pos_iff.2 hl⟩⟩
theorem spl_mid:∀ (vs c d pre:List AVal),c.length=vs.length→splice (pre++(c++d)) pre.length vs=pre++(vs++d)
 | [],c,d,pre,h=>by rw [List.eq_nil_of_length_eq_zero h];rfl
 | v :: vs,[],d,pre,h=>by simp at h
 | v :: vs,x :: c,d,pre,h=>by
  rw [splice,List.cons_append,List.set_append_right _ _ (Nat.le_refl _),Nat.sub_self,List.set_cons_zero]
  have:=spl_mid vs c d (pre++[v]) (by simpa using h)
  simpa using this
theorem repCells_plus (z:List AVal):∀ n m,repCells z (n+m)=repCells z n++repCells z m
 | 0,m=>by simp [repCells]
 | n+1,m=>by rw [show n+1+m=(n+m)+1 by omega,repCells,repCells_plus z n m,repCells,List.append_assoc]
abbrev z4:List AVal:=[.int .i64 0,.int .i64 0,.int .i64 0,.int .i64 0]
abbrev rmB (l:List (Int × Int × Int × Int)):ABlk:=⟨.cells (flat encG l++z4) 93 true false,0⟩
theorem copy_room {base id:Nat} {A:Heap} {x:AVal} {l:List (Int × Int × Int × Int)} (hg:A[id]?=some ⟨.cells (repCells z4 (l.length+1)) 93 true false,0⟩) (hR:Rows encG A x l) (hb:base≤id) :
  copyA prog base A 85 (.slice (some ⟨id,0,0⟩) l.length (l.length+1)) x=some (.int .i64 (l.length:Int),A.set id (rmB l)):=by
 have hm:min l.length l.length=l.length:=by omega
 have hc:(repCells z4 l.length).length=(flat encG l).length:=by rw [repCells_length,flat_len];rfl
 have hr:repCells z4 (l.length+1)=repCells z4 l.length++z4:=by rw [repCells_plus];simp [repCells]
 have ht:elS prog 85=some (93,encG.z,z4):=Fc.el85
 simp only [copyA,ht,hR.lenA,hm,hR.firstN,storeN,hg]
 rw [if_pos ⟨trivial,by rw [hr,List.length_append,hc];omega,flat_scalar encG_sc _,.inl hb⟩]
 have:=spl_mid (flat encG l) (repCells z4 l.length) z4 [] hc
 simp only [List.nil_append,List.length_nil] at this
 rw [hr,this]
theorem app_room {base id:Nat} {A:Heap} {x:AVal} {l:List (Int × Int × Int × Int)} {w:Int × Int × Int × Int} (hg:A[id]?=some (rmB l)) (hR:Rows encG A x [w]) (hb:base≤id) :
  appendA prog base A 85 (.slice (some ⟨id,0,0⟩) l.length (l.length+1)) x=some (.slice (some ⟨id,0,0⟩) (l.length+1) (l.length+1),A.set id (rowE encG 93 (l++[w]) 0)):=by
 have ht:elS prog 85=some (93,encG.z,z4):=Fc.el85
 have h1:=hR.lenA
 have h2:=hR.firstN
 simp only [List.length_singleton] at h1 h2
 have hz:(flat encG l).length=l.length * encG.z:=flat_len ..
 have hc:(flat encG [w]).length=4:=by rw [flat_len];rfl
 simp only [appendA,ht,h1,h2,flat_scalar encG_sc,if_true]
 rw [if_pos (Nat.le_refl _)]
 simp only [storeN,ARef.add,hg]
 rw [if_pos ⟨trivial,by rw [List.length_append,hz,hc];simp,flat_scalar encG_sc _,.inl hb⟩]
 have:=spl_mid (flat encG [w]) z4 [] (flat encG l) (by rw [hc];rfl)
 rw [List.append_nil,List.append_nil,hz] at this
 simp only [Nat.zero_add,this,rowE,flat_app]
theorem Rows.room {H:Heap} {id:Nat} {l:List (Int × Int × Int × Int)} (hg:H[id]?=some (rmB l)) (hl:l.length≤100):Rows encG H (.slice (some ⟨id,0,0⟩) l.length (l.length+1)) l:=by
 have hz:(flat encG l).length=l.length * encG.z:=flat_len ..
 refine ⟨by omega,.inr (.inr ⟨⟨id,0,0⟩,l.length+1,_,_,_,_,rfl,hg,?_,?_,by omega⟩)⟩
 ·rw [List.drop_zero,← hz,List.take_left]
 ·rw [List.length_append,hz];simp
theorem stT35 {base:Nat} {l:List Oper} {s:St} {Q:AExit→St→Prop}:WP prog raw base (.region 3 l.toArray true) s Q=WPS prog raw base (.region 3 l.toArray true) s Q:=WP_stop
attribute [local go_sem ↓ 3000] stT35
set_option maxHeartbeats 1000000 in
theorem run_copied {base:Nat} {h:Heap} {v:AVal} {M:Mil} (hb:base≤h.length) (hM:MilAt h v M) (ok:MOk M) :
  Ret prog raw base (.fn 69 [] []) [v] h (fun w H=>Ext h H∧∃ lv id,w=.agg [.int .i64 0,lv,.slice (some ⟨id,0,0⟩) M.G.length (M.G.length+1)]∧Own encS 83 h.length H lv M.L∧H[id]?=some (rmB M.G)∧h.length≤id):=by
 obtain ⟨lv,wv,rfl,hL,hG⟩:=hM
 rw [ok.E]
 have o1:=hL.one
 have o2:=hG.one
 have b1:=ok.n
 have b2:=ok.g
 obtain ⟨G0,eG0⟩:∃ G0,G0=h++[mlB 0 lv wv]++[mlB 0 (.slice none 0 0) (.slice none 0 0)]:=⟨_,rfl⟩
 have x0:Ext h G0:=by rw [eG0];exact .app (.app .refl)
 have l0:G0.length=h.length+2:=by rw [eG0];simp
 have g0:G0[h.length]?=some (mlB 0 lv wv):=by rw [eG0];exact get_app (get_eq rfl)
 have r0:G0[h.length+1]?=some (mlB 0 (.slice none 0 0) (.slice none 0 0)):=by rw [eG0];exact get_eq (by simp)
 have n0:=(hG.ext x0).len (P:=prog) Fc.el85
 obtain ⟨G1,eG1⟩:∃ G1,G1=G0++[(⟨.cells (repCells z4 (M.G.length+1)) 93 true false,0⟩:ABlk)]:=⟨_,rfl⟩
 have x1:Ext G0 G1:=by rw [eG1];exact .app .refl
 have mk:makeSliceA prog G0 85 (.int .i64 (M.G.length:Int)) (.int .i64 ((M.G.length:Int)+1))=some (.slice (some ⟨G0.length,0,0⟩) M.G.length (M.G.length+1),G1):=by
  have ht:elS prog 85=some (93,encG.z,z4):=Fc.el85
  simp only [makeSliceA,ht]
  rw [if_pos ⟨by omega,by omega,by omega⟩,if_neg (by omega),eG1]
  have e:((M.G.length:Int)+1).toNat=M.G.length+1:=by omega
  rw [e,Int.toNat_natCast]
 have m1:G1[G0.length]?=some ⟨.cells (repCells z4 (M.G.length+1)) 93 true false,0⟩:=by rw [eG1];exact get_eq rfl
 have g1:=x1.get g0
 have l1:G1.length=h.length+3:=by rw [eG1];simp [l0]
 have cp:=copy_room (base:=base) m1 (hG.ext (x0.trans x1)) (by omega)
 obtain ⟨G2,eG2⟩:∃ G2,G2=G1.set G0.length (rmB M.G):=⟨_,rfl⟩
 rw [← eG2] at cp
 have x2:Ext G0 G2:=by rw [eG2];exact x1.set (Nat.le_refl _)
 have l2:G2.length=h.length+3:=by rw [eG2,List.length_set,l1]
 have m2:G2[G0.length]?=some (rmB M.G):=by rw [eG2,List.getElem?_set_self (by omega)]
 have g2:=x2.get g0
 have r2:=x2.get r0
 have hne:M.L ≠ []:=fun e=>by rw [e] at b1;simp at b1
 obtain ⟨u,H3,e3,x3,oU⟩:=run_cloneL (base:=base) (h:=G2) (by omega) (hL.ext (x0.trans x2)) hne (by omega)
 have l3:=x3.len
 have g3:=x3.get g2
 have r3:=x3.get r2
 have ou:=oU.one
 unfold mlB at eG0 g0 g1 g2 g3 r3
 refine ret_raw func69 rfl (by kernel_rfl) ?_
 have hsp:=@Nat.succ_ne_zero;repeat' (first|simp (disch:=first|exact dqb|fail) only [go_sem,↓reduceIte,hsp,← eG0,g0,n0,mk,g1,cp]|refine WP_drw ?_|refine cnd_intro (fun hsp=>?_) fun hsp=>?_)
 refine WPS_go ?_
 refine WP_wild [⟨1,3,16,⟨h.length,0,0⟩,.int .i64 0,7⟩] (by kernel_rfl) (by kernel_rfl) (by kernel_rfl) ⟨refsLow_int,trivial⟩ fun KK hK=>?_
 iterate 8
  rw [TRS_cons]
  refine ⟨by first|(simp (disch:=first|exact dqb|fail) only [go_sem,↓reduceIte,g2,e3,g3,r3,ldsQ_cons,ldsQ_nil,grdQ_cons,grdQ_nil,if_true,Nat.reduceLeDiff];done)|exact trivial,?_⟩
  simp (disch:=first|exact dqb|fail) only [go_sem,↓reduceIte,g2,e3,g3,r3]
 rw [TRS_nil]
 refine ⟨by first|(simp (disch:=first|exact dqb|fail) only [go_sem,↓reduceIte,g2,e3,g3,r3,ldsQ_cons,ldsQ_nil,grdQ_cons,grdQ_nil,if_true,Nat.reduceLeDiff];done)|exact trivial,?_⟩
 subst hK
 have hsp:=@Nat.succ_ne_zero;repeat' (first|simp (disch:=first|exact dqb|fail) only [go_sem,↓reduceIte,hsp]|refine WP_drw ?_|refine cnd_intro (fun hsp=>?_) fun hsp=>?_)
 exact ⟨(x0.trans (x2.trans x3)).set (by omega),u,G0.length,rfl,(oU.low (by omega)).setBox r3,by first|exact x3.get m2|(rw [List.getElem?_set_ne (by omega)];exact x3.get m2),by omega⟩
end Go.AM
namespace Go.AM
open Go.Proofs.Tryz
attribute [-go_sem] put_ne put_same
attribute [local go_sem ↓] put_if
theorem run_sknown {base:Nat} {h:Heap} {v:AVal} {M:Mil} {n:Int} (hb:base≤h.length) (hM:MilAt h v M) (ok:MOk M) (hs:Star M) (hn:0≤n∧n<(M.L.length:Int)) :
  Ret prog raw base (.fn 66 [] []) [v,.int .i64 n] h (fun w H=>Ext h H∧∃ id,w=.tuple [.ptr (some ⟨id,0,0⟩),.int .i64 0]∧DeskS H id M):=by
 have hM':=hM
 obtain ⟨lv,wv,rfl,hL,hG⟩:=hM'
 rw [ok.E] at hM ⊢
 have o1:=hL.one
 have o2:=hG.one
 have b1:=ok.n
 obtain ⟨G0,eG0⟩:∃ G0,G0=h++[mlB 0 lv wv]:=⟨_,rfl⟩
 have x0:Ext h G0:=by rw [eG0];exact .app .refl
 have l0:G0.length=h.length+1:=by rw [eG0];simp
 have g0:G0[h.length]?=some (mlB 0 lv wv):=by rw [eG0];exact get_eq rfl
 obtain ⟨w,H1,e1,x1,id,rfl,hD,_⟩:=run_sopened (base:=base) (h:=G0) (by omega) (hM.ext x0) ok hs
 have g1:=x1.get g0
 have lo:=fun base=>run_lot (base:=base) (E:=0) (n:=n) (hL.ext (x0.trans x1)) o2 b1.2
 rw [decide_eq_true (by omega)] at lo
 unfold mlB at eG0 g0 g1
 refine ret_raw func66 rfl (by kernel_rfl) ?_
 have hsp:=@Nat.succ_ne_zero;repeat' (first|simp (disch:=first|exact dqb|fail) only [go_sem,↓reduceIte,hsp,← eG0,g0,e1,g1,lo]|refine WP_drw ?_|refine cnd_intro (fun hsp=>?_) fun hsp=>?_)
 exact ⟨x0.trans x1,id,rfl,hD⟩
set_option maxHeartbeats 1000000 in
theorem run_Weigh {base:Nat} {h:Heap} {v:AVal} {M:Mil} {w:Int × Int × Int × Int} (hb:base≤h.length) (hM:MilAt h v M) (ok:MOk M) (hw:WgOk M.L.length w) (hg:M.G.length<10) :
  Ret prog raw base (.fn 23 [] []) [v,.agg [.int .i64 w.1,.int .i64 w.2.1,.int .i64 w.2.2.1,.int .i64 w.2.2.2]] h (fun r H=>Ext h H∧∃ v',r=.tuple [v',.int .i64 0]∧MilAt H v' ⟨0,M.L,M.G++[w]⟩∧MOk ⟨0,M.L,M.G++[w]⟩):=by
 have hM':=hM
 obtain ⟨lv,wv,rfl,hL,hG⟩:=hM'
 rw [ok.E] at hM ⊢
 have o1:=hL.one
 have o2:=hG.one
 have b1:=ok.n
 have ok':MOk ⟨0,M.L,M.G++[w]⟩:=⟨rfl,ok.n,by simp;omega,ok.k,ok.f,fun z hz=>by
  rcases List.mem_append.1 hz with hz|hz
  ·exact ok.w z hz
  ·rw [List.mem_singleton] at hz;rw [hz];exact hw⟩
 obtain ⟨G0,eG0⟩:∃ G0,G0=h++[mlB 0 lv wv]++[wgB w]++[mlB 0 (.slice none 0 0) (.slice none 0 0)]:=⟨_,rfl⟩
 have x0:Ext h G0:=by rw [eG0];exact .app (.app (.app .refl))
 have l0:G0.length=h.length+3:=by rw [eG0];simp
 have g0:G0[h.length]?=some (mlB 0 lv wv):=by rw [eG0];exact get_app (get_app (get_eq rfl))
 have w0:G0[h.length+1]?=some (wgB w):=by rw [eG0];exact get_app (get_eq (by simp))
 have r0:G0[h.length+1+1]?=some (mlB 0 (.slice none 0 0) (.slice none 0 0)):=by rw [eG0];exact get_eq (by simp)
 have ck:=fun base=>run_sCheck (base:=base) (hM.ext x0) ok
 have n0:=(hG.ext x0).len (P:=prog) Fc.el85
 have t1:((M.G.length:Int)=10)=False:=eq_false (by omega)
 obtain ⟨_,H1,e1,x1,lv1,id,rfl,oL,hid,hi⟩:=run_copied (base:=base) (h:=G0) (by omega) (hM.ext x0) ok
 have l1:=x1.len
 have ol:=oL.one
 obtain ⟨H2,eH2⟩:∃ H2,H2=H1++[mlB 0 lv1 (.slice (some ⟨id,0,0⟩) M.G.length (M.G.length+1))]:=⟨_,rfl⟩
 have x2:Ext H1 H2:=by rw [eH2];exact .app .refl
 have l2:H2.length=H1.length+1:=by rw [eH2];simp
 have m2:H2[H1.length]?=some (mlB 0 lv1 (.slice (some ⟨id,0,0⟩) M.G.length (M.G.length+1))):=by rw [eH2];exact get_eq rfl
 have w2:=(x1.trans x2).get w0
 obtain ⟨H3,eH3⟩:∃ H3,H3=H2++[rowE encG 93 [w] 0]:=⟨_,rfl⟩
 have x3:Ext H2 H3:=by rw [eH3];exact .app .refl
 have l3:H3.length=H1.length+2:=by rw [eH3];simp [l2]
 have bs:∀ {lit:Bool},bsA prog lit H2 85 1 [(0,.agg [.int .i64 w.1,.int .i64 w.2.1,.int .i64 w.2.2.1,.int .i64 w.2.2.2])]=some (.slice (some ⟨H2.length,0,0⟩) 1 1,H3):=fun {lit}=>by
  rw [eH3]
  simp [bsA,rowOf,Fc.el85,fillA,repCells,AVal.isN,AVal.cells,splice,rowE,flat,encG]
 have lid:=lt_of_get hid
 have ap:=app_room (base:=base) (w:=w) (x:=.slice (some ⟨H2.length,0,0⟩) 1 1) ((x2.trans x3).get hid) (Rows.own (ver:=0) (by rw [eH3];exact get_eq rfl) rfl (by simp)) (by omega)
 obtain ⟨H4,eH4⟩:∃ H4,H4=H3.set id (rowE encG 93 (M.G++[w]) 0):=⟨_,rfl⟩
 rw [← eH4] at ap
 have l4:H4.length=H3.length:=by rw [eH4,List.length_set]
 have x04:Ext G0 H4:=by rw [eH4];exact (x1.trans (x2.trans x3)).set hi
 have m4:H4[H1.length]?=some (mlB 0 lv1 (.slice (some ⟨id,0,0⟩) M.G.length (M.G.length+1))):=by rw [eH4,List.getElem?_set_ne (by omega)];exact x3.get m2
 have g4:H4[id]?=some (rowE encG 93 (M.G++[w]) 0):=by rw [eH4,List.getElem?_set_self (by omega)]
 obtain ⟨sv,esv⟩:∃ sv,sv=AVal.slice (some ⟨id,0,0⟩) (M.G.length+1) (M.G.length+1):=⟨_,rfl⟩
 obtain ⟨H5,eH5⟩:∃ H5,H5=H4.set H1.length (mlB 0 lv1 sv):=⟨_,rfl⟩
 have x05:Ext G0 H5:=by rw [eH5];exact x04.set (by omega)
 have m5:H5[H1.length]?=some (mlB 0 lv1 sv):=by rw [eH5,List.getElem?_set_self (by omega)]
 have g5:H5[id]?=some (rowE encG 93 (M.G++[w]) 0):=by rw [eH5,List.getElem?_set_ne (by omega)];exact g4
 have r5:=x05.get r0
 have oL5:Own encS 83 G0.length H5 lv1 M.L:=by
  have a:Own encS 83 G0.length H3 lv1 M.L:=oL.ext (x2.trans x3)
  have b:Own encS 83 G0.length H4 lv1 M.L:=by
   rcases a with ⟨rfl,e⟩|⟨i,ver,e1,q1,q2,q3⟩
   ·exact .inl ⟨rfl,e⟩
   ·refine .inr ⟨i,ver,e1,?_,q2,q3⟩
    rw [eH4,List.getElem?_set_ne]
    ·exact q1
    ·rintro rfl
     rw [(x2.trans x3).get hid] at q1
     simp [rowE] at q1
  rw [eH5]
  exact b.setBox m4
 have mA:MilAt H5 (.agg [.int .i64 0,lv1,sv]) ⟨0,M.L,M.G++[w]⟩:=⟨lv1,sv,rfl,oL5.rows (by omega),by rw [esv];exact Rows.own g5 (by simp) (by simp;omega)⟩
 have osv:One sv:=by rw [esv];exact ⟨rfl,rfl,rfl⟩
 have ck2:=fun base=>run_sCheck (base:=base) mA ok'
 have l5:H5.length=H4.length:=by rw [eH5,List.length_set]
 rw [← esv] at ap
 unfold mlB wgB at eG0
 unfold mlB at g0 r0 eH2 m2 m4 eH5 m5 r5
 unfold wgB at w2
 refine ret_raw func23 rfl (by kernel_rfl) ?_
 have hsp:=@Nat.succ_ne_zero;repeat' (first|simp (disch:=first|exact dqb|fail) only [go_sem,↓reduceIte,hsp,← eG0,g0,ck,n0,t1,e1,← eH2,m2,w2,bs,ap,m4,← eH5,m5,ck2,r5]|refine WP_drw ?_|refine cnd_intro (fun hsp=>?_) fun hsp=>?_)
 exact ⟨(x0.trans x05).set (by omega),_,rfl,⟨lv1,sv,rfl,(oL5.setBox r5).rows (by omega),by rw [esv];exact Rows.own (by rw [List.getElem?_set_ne (by omega)];exact g5) (by simp) (by simp;omega)⟩,ok'⟩
end Go.AM
namespace Go.AM
open Go.Proofs.Tryz
attribute [-go_sem] put_ne put_same
attribute [local go_sem ↓] put_if
theorem snocL {b base:Nat} {A:Heap} {w:AVal} {l:List (Int × Int)} {r:Int × Int} (hO:Own encS 83 b A w l) (hb:base≤b) (hbh:b≤A.length) (hl:l.length≤1000000) :
  ∃ w' H,appendA prog base (A++[rowE encS 83 [r] 0]) 84 w (.slice (some ⟨A.length,0,0⟩) 1 1)=some (w',H)∧Own encS 83 b H w' (l++[r])∧A.length≤H.length∧(∀ G,G.length≤b→Ext G A→Ext G H)∧One w'∧KeepO encS 83 A H:=by
 obtain ⟨B,eB⟩:∃ B,B=A++[rowE encS 83 [r] 0]:=⟨_,rfl⟩
 have xB:Ext A B:=by rw [eB];exact .app .refl
 have lB':B.length=A.length+1:=by rw [eB];simp
 have hx:Rows encS B (.slice (some ⟨A.length,0,0⟩) 1 1) [r]:=Rows.own (by rw [eB];exact get_eq rfl) rfl (by simp)
 rw [← eB]
 obtain ⟨w',H,a1,a2,a3,a4,a5,a6⟩:=(hO.ext xB).appendRX (P:=prog) (base:=base) (t:=84) hx Fc.el84 encS_sc hb (by omega) (by simp) (by simp;omega)
 have a6:KeepO encS 83 B H:=a6
 exact ⟨w',H,a1,a2,by omega,fun G h1 h2=>a4 G h1 (h2.trans xB),a5,fun i y hi hy=>a6 i y (xB.get hi) hy⟩
set_option maxHeartbeats 2000000 in
theorem run_Split {base:Nat} {h:Heap} {v kv:AVal} {M:Mil} {Kd:List Int} (hb:base≤h.length) (hM:MilAt h v M) (ok:MOk M) (hs:Star M) (h1:M.L.length=1) (hK:Rows encI h kv Kd) (hk:∀ k ∈ Kd,0≤k∧k≤3) (hn:1≤Kd.length∧Kd.length≤11) (hg:M.G=[]) :
  Ret prog raw base (.fn 22 [] []) [v,.int .i64 0,kv] h (fun r H=>∃ v',r=.tuple [v',.int .i64 0]∧Ext h H∧MilAt H v' ⟨0,M.L++Kd.map ((0,·)),[]⟩):=by
 have hM':=hM
 obtain ⟨lv,wv,rfl,hL,hG⟩:=hM'
 rw [ok.E] at hM
 rw [ok.E]
 have o1:=hL.one
 have o2:=hG.one
 have ok3:=hK.one
 obtain ⟨G0,eG0⟩:∃ G0,G0=h++[mlB 0 lv wv]++[mlB 0 (.slice none 0 0) (.slice none 0 0)]:=⟨_,rfl⟩
 have x0:Ext h G0:=by rw [eG0];exact .app (.app .refl)
 have l0:G0.length=h.length+2:=by rw [eG0];simp
 have g0:G0[h.length]?=some (mlB 0 lv wv):=by rw [eG0];exact get_app (get_eq rfl)
 have r0:G0[h.length+1]?=some (mlB 0 (.slice none 0 0) (.slice none 0 0)):=by rw [eG0];exact get_eq (by simp)
 obtain ⟨_,H1,e1,x1,id,rfl,hD⟩:=run_sknown (base:=base) (h:=G0) (n:=0) (by omega) (hM.ext x0) ok hs (by omega)
 have n1:=x1.len
 obtain ⟨lv2,wv2,m,es,dg,dm,_,_,_,iB,_⟩:=hD
 have lk:=look_S (k:=0) dm
 rw [h1,Nat.sub_self] at iB
 have nB:lenOpA prog H1 35 (lkS es 0)=some (.int .i64 0):=lenI iB
 have t0:((0:Int) > 0)=False:=eq_false (by omega)
 have oB:=iB.one
 have x01:=x0.trans x1
 have nK:=(hK.ext x01).len (P:=prog) (t:=88) Fc.el88
 have nL:=(hL.ext x01).len (P:=prog) Fc.el84
 rw [h1] at nL
 have g1:=x1.get g0
 have t1:((Kd.length:Int)=0)=False:=eq_false (by omega)
 have t2:(1+(Kd.length:Int) > 12)=False:=eq_false (by omega)
 have ev:=fun base=>every_SK (base:=base) (g:=.fn 68 [] []) (fun _=>true) (hK.ext x01) (fun base T x hx=>run_allowed (hk x hx)) ⟨rfl,rfl,rfl⟩
 rw [show (Kd.all fun _=>true)=true by simp] at ev
 obtain ⟨_,H2,e2,x2,lv3,wid,rfl,oL,hid,hi⟩:=run_copied (base:=base) (h:=H1) (by omega) (hM.ext x01) ok
 have n2:=x2.len
 have ol3:=oL.one
 have lwid:=lt_of_get hid
 have rL:M.G.length=0:=by rw [hg];rfl
 rw [rL] at e2
 obtain ⟨H3,eH3⟩:∃ H3,H3=H2++[mlB 0 lv3 (.slice (some ⟨wid,0,0⟩) 0 (0+1))]:=⟨_,rfl⟩
 have x3:Ext H2 H3:=by rw [eH3];exact .app .refl
 have n3:H3.length=H2.length+1:=by rw [eH3];simp
 have m3:H3[H2.length]?=some (mlB 0 lv3 (.slice (some ⟨wid,0,0⟩) 0 (0+1))):=by rw [eH3];exact get_eq rfl
 have x03:=x01.trans (x2.trans x3)
 have nK3:=(hK.ext x03).len (P:=prog) (t:=88) Fc.el88
 have hid3:=x3.get hid
 rw [hg] at hid3
 have r3:=(x1.trans (x2.trans x3)).get r0
 unfold dkB at dg
 unfold mlB at eG0 g0 g1 eH3
 refine ret_raw func22 rfl (by kernel_rfl) ?_
 have hsp:=@Nat.succ_ne_zero;repeat' (first|simp (disch:=first|exact dqb|fail) only [go_sem,↓reduceIte,hsp,← eG0,g0,e1,dg,lk,nB,t0,nK,t1,g1,nL,t2,ev,e2,← eH3,nK3]|refine WP_drw ?_|refine cnd_intro (fun hsp=>?_) fun hsp=>?_)
 refine WP_count [(12,12),(57,69)] 0 Kd.length (Nat.zero_le _) (fun _ i fr h'=>fr 57=.int .i64 (i:Int)∧∃ u,Ext G0 h'∧h'[H2.length]?=some (mlB 0 u (.slice (some ⟨wid,0,0⟩) 0 (0+1)))∧Own encS 83 H1.length h' u (M.L++(Kd.take i).map ((0,·)))∧h'[wid]?=some (rmB [])∧h'[h.length+1]?=some (mlB 0 (.slice none 0 0) (.slice none 0 0))) ?_ ?_ ?_
 ·exact ⟨by (simp (disch:=first|exact dqb|fail) only [go_sem,↓reduceIte,Int.natCast_zero];first|done|rfl),lv3,x1.trans (x2.trans x3),m3,by simpa using oL.ext x3,hid3,r3⟩
 ·rintro i fr H hi0 hi2 hAg ⟨p57,u,xH,mH,oH,wH,rH⟩
  have p1:=hAg 1 rfl
  have p6:=hAg 6 rfl
  have p7:=hAg 7 rfl
  have p10:=hAg 10 rfl
  have p55:=hAg 55 rfl
  have p56:=hAg 56 rfl
  try simp (disch:=first|exact dqb|fail) only [go_sem,↓reduceIte] at p1 p6 p7 p10 p55 p56
  have hlt:((i:Int)<(Kd.length:Int))=True:=eq_true (by omega)
  have kH:=hK.ext (x0.trans xH)
  have a:=kH.addr (P:=prog) (t:=88) (i:=(i:Int)) Fc.el88 Fc.ar88 (by omega) (by omega)
  rw [Int.toNat_natCast] at a
  obtain ⟨x,ex⟩:∃ x,x=Kd.getD i 0:=⟨_,rfl⟩
  have d:loadP prog H 81 (elAdr kv encI.z i 0)=some (.int .i64 x):=by rw [ex];exact kH.cell Fc.ty81 (getD_some hi2) rfl
  have ou:=oH.one
  have lH:=lt_of_get mH
  obtain ⟨w',H',ea,oW,lW,eW,oneW,kW⟩:=snocL (base:=base) (r:=(0,x)) oH (by omega) (by omega) (by simp;omega)
  have bs:∀ {lit:Bool},bsA prog lit H 84 1 [(0,.agg [.int .i64 0,.int .i64 x])]=some (.slice (some ⟨H.length,0,0⟩) 1 1,H++[rowE encS 83 [(0,x)] 0]):=fun {lit}=>by
   simp [bsA,rowOf,Fc.el84,fillA,repCells,AVal.isN,AVal.cells,splice,rowE,flat,encS]
  have mW:=kW.box mH
  have rW:=kW.box rH
  have wW:H'[wid]?=some (rmB []):=kW _ _ wH fun l' ver q=>by simp [rowE] at q
  have mH':=mH
  unfold mlB at mH'
  have hsp:=@Nat.succ_ne_zero;repeat' (first|simp (disch:=first|exact dqb|fail) only [go_sem,↓reduceIte,hsp,p1,p6,p7,p10,p55,p56,p57,hlt,a,d,mH',bs,ea,mW]|refine WP_drw ?_|refine cnd_intro (fun hsp=>?_) fun hsp=>?_)
  refine ⟨agq,by omega,w',(eW G0 (by omega) xH).set (by omega),rfl,?_,by first|exact wW|(rw [List.getElem?_set_ne (by omega)];exact wW),by first|exact rW|(rw [List.getElem?_set_ne (by omega)];exact rW)⟩
  rw [List.take_add_one,getD_some (d:=0) hi2,← ex,List.map_append,← List.append_assoc]
  exact oW.setBox mW
 ·rintro fr H hAg ⟨p57,u,xH,mH,oH,wH,rH⟩
  have p1:=hAg 1 rfl
  have p6:=hAg 6 rfl
  have p7:=hAg 7 rfl
  have p10:=hAg 10 rfl
  have p55:=hAg 55 rfl
  have p56:=hAg 56 rfl
  try simp (disch:=first|exact dqb|fail) only [go_sem,↓reduceIte] at p1 p6 p7 p10 p55 p56
  have hlt:((Kd.length:Int)<(Kd.length:Int))=False:=eq_false (by omega)
  rw [List.take_length] at oH
  have ou:=oH.one
  have mH':=mH
  have rH':=rH
  have lr:=lt_of_get rH
  unfold mlB at mH' rH'
  have hsp:=@Nat.succ_ne_zero;repeat' (first|simp (disch:=first|exact dqb|fail) only [go_sem,↓reduceIte,hsp,p1,p6,p7,p10,p55,p56,p57,hlt,mH',rH']|refine WP_drw ?_|refine cnd_intro (fun hsp=>?_) fun hsp=>?_)
  have nwid:wid ≠ h.length+1:=by omega
  exact ⟨_,rfl,(x0.trans xH).set (by omega),u,_,rfl,(oH.setBox rH').rows (by simp;omega),Rows.room (l:=[]) (by rw [List.getElem?_set_ne (by omega)];exact wH) (by simp)⟩
end Go.AM
namespace Go.AM
open Go.Proofs.Tryz
attribute [-go_sem] put_ne put_same
attribute [local go_sem ↓] put_if
abbrev spX (a b:Int):ABlk:=⟨.cells [.int .i64 a,.int .i64 b] 80 false false,0⟩
set_option maxHeartbeats 1000000 in
theorem run_says {base:Nat} {h:Heap} {id i:Nat} {M:Mil} {w:Int × Int × Int × Int} (hD:DeskS h id M) (hw:M.G[i]?=some w) (ok:WgOk M.L.length w) :
  callL prog raw base (.fn 220 [] []) [.ptr (some ⟨id,0,0⟩),.int .i64 (i:Int)] h=some (.agg [.int .i64 w.2.1,.int .i64 w.2.1],h):=by
 obtain ⟨lv,wv,m,es,dg,_,_,hG,_⟩:=hD
 obtain ⟨l,r,d1,d2⟩:=w
 obtain ⟨h1,h2,h3,h4⟩:=ok
 simp only at h1 h2 h3 h4
 subst h3 h4
 simp only
 have hi:=(List.getElem?_eq_some_iff.1 hw).1
 have o2:=hG.one
 obtain ⟨G,eG⟩:∃ G,G=h++[spX 0 0]++[wgB (l,r,0,0)]:=⟨_,rfl⟩
 have xG:Ext h G:=by rw [eG];exact .app (.app .refl)
 have lG:G.length=h.length+2:=by rw [eG];simp
 have g0:G[h.length]?=some (spX 0 0):=by rw [eG];exact get_app (get_eq rfl)
 have g1:G[h.length+1]?=some (wgB (l,r,0,0)):=by rw [eG];exact get_eq (by simp)
 have gd:=xG.get dg
 have a:=hG.addr (P:=prog) (i:=(i:Int)) Fc.el85 Fc.ar85 (by omega) (by omega)
 rw [Int.toNat_natCast] at a
 have d:∀ {T:Heap},loadP prog (h++T) 93 (elAdr wv encG.z i 0)=some (.agg [.int .i64 l,.int .i64 r,.int .i64 0,.int .i64 0]):=fun {T}=>(hG.app (T:=T)).load Fc.ty93 hw
 obtain ⟨G2,eG2⟩:∃ G2,G2=G++[rowB [r] 0]:=⟨_,rfl⟩
 have xG2:Ext G G2:=by rw [eG2];exact .app .refl
 have iR:Ints G2 (.slice (some ⟨G.length,0,0⟩) 1 1) [r]:=by rw [eG2];exact slice_row rfl rfl ⟨by simp,fun z hz=>by rw [List.mem_singleton] at hz;omega⟩
 have ls:=fun base=>run_sleast (base:=base) (n:=10000) iR
 rw [show min (10000:Int) r=r by omega] at ls
 have g02:=xG2.get g0
 have lG2:=lt_of_get g02
 have e1:max (0:Int) (r-0)=r:=by omega
 have e2:(100 * r+100-1).tdiv 100=r:=by rw [Int.tdiv_eq_ediv_of_nonneg (by omega)];omega
 have e3:(100 * r).tdiv 100=r:=by rw [Int.tdiv_eq_ediv_of_nonneg (by omega)];omega
 have e4:r-0=r:=by omega
 have e5:max (0:Int) r=r:=by omega
 have dgT:∀ {T:Heap},(h++T)[id]?=some (dkB lv wv m):=fun {T}=>get_app dg
 unfold dkB at gd dg dgT
 unfold wgB at eG g1
 unfold spX at eG g0 g02
 refine callL_run func220 rfl rfl ?_
 have hsp:=@Nat.succ_ne_zero;repeat' (first|simp (disch:=first|exact dqb|fail) only [go_sem,↓reduceIte,hsp,dgT,gd,a,d,← eG,g1,e4,e5,e2,e3,Int.add_zero,bsrI,← eG2,ls,g02]|refine WP_drw ?_|refine cnd_intro (fun hsp=>?_) fun hsp=>?_)
 exact fin_pl rfl rfl ((xG.trans xG2).set (Nat.le_refl _))
end Go.AM
namespace Go.AM
open Go.Proofs.Tryz
attribute [-go_sem] put_ne put_same
attribute [local go_sem ↓] put_if
def bdF (f:Nat→Int × Int):List Int:=lst (fun j=>if j % 2=0 then (f (j / 2)).1 else (f (j / 2)).2) 24
abbrev arB (f:Nat→Int × Int):ABlk:=⟨.cells (ints (bdF f)) 182 false false,0⟩
def setF (f:Nat→Int × Int) (i:Nat) (p:Int × Int):Nat→Int × Int:=fun j=>if j=i then p else f j
theorem bdF_len {f:Nat→Int × Int}:(bdF f).length=24:=lst_len
theorem bdF_at {f:Nat→Int × Int} {i:Nat} (h:i<12):(bdF f)[2 * i]?=some (f i).1∧(bdF f)[2 * i+1]?=some (f i).2:=by
 have e1:(bdF f).getD (2 * i) 0=(f i).1:=by
  unfold bdF
  rw [lst_get (by omega),if_pos (by omega),show 2 * i / 2=i by omega]
 have e2:(bdF f).getD (2 * i+1) 0=(f i).2:=by
  unfold bdF
  rw [lst_get (by omega),if_neg (by omega),show (2 * i+1) / 2=i by omega]
 exact ⟨by rw [← e1];exact getD_some (by rw [bdF_len];omega),by rw [← e2];exact getD_some (by rw [bdF_len];omega)⟩
theorem bdF_ext {f g:Nat→Int × Int} (h:∀ i,i<12→f i=g i):bdF f=bdF g:=by
 apply List.ext_getElem?
 intro j
 by_cases hj:j<24
 ·obtain ⟨i,c|c⟩:∃ i,j=2 * i ∨ j=2 * i+1:=⟨j / 2,by omega⟩
  ·subst c;rw [(bdF_at (by omega)).1,(bdF_at (by omega)).1,h i (by omega)]
  ·subst c;rw [(bdF_at (by omega)).2,(bdF_at (by omega)).2,h i (by omega)]
 ·rw [List.getElem?_eq_none (by rw [bdF_len];omega),List.getElem?_eq_none (by rw [bdF_len];omega)]
theorem bdF_set {f:Nat→Int × Int} {i:Nat} {x y:Int} (h:i<12):((bdF f).set (2 * i) x).set (2 * i+1) y=bdF (setF f i (x,y)):=by
 apply List.ext_getElem?
 intro j
 by_cases hj:j<24
 ·obtain ⟨k,c|c⟩:∃ i,j=2 * i ∨ j=2 * i+1:=⟨j / 2,by omega⟩
  ·subst c
   rw [(bdF_at (by omega)).1,List.getElem?_set_ne (by omega)]
   unfold setF
   by_cases e:k=i
   ·subst e
    rw [if_pos rfl,List.getElem?_set_self (by rw [bdF_len];omega)]
   ·rw [if_neg e,List.getElem?_set_ne (by omega),(bdF_at (by omega)).1]
  ·subst c
   rw [(bdF_at (by omega)).2]
   unfold setF
   by_cases e:k=i
   ·subst e
    rw [if_pos rfl,List.getElem?_set_self (by rw [List.length_set,bdF_len];omega)]
   ·rw [if_neg e,List.getElem?_set_ne (by omega),List.getElem?_set_ne (by omega),(bdF_at (by omega)).2]
 ·rw [List.getElem?_eq_none (by rw [List.length_set,List.length_set,bdF_len];omega),List.getElem?_eq_none (by rw [bdF_len];omega)]
theorem bdF_hi {f:Nat→Int × Int} {i:Nat} {y:Int} (h:i<12):(bdF f).set (2 * i+1) y=bdF (setF f i ((f i).1,y)):=by
 rw [← bdF_set h]
 congr 1
 apply List.ext_getElem?
 intro j
 by_cases e:j=2 * i
 ·subst e
  rw [List.getElem?_set_self (by rw [bdF_len];omega),(bdF_at h).1]
 ·rw [List.getElem?_set_ne (fun q=>e q.symm)]
section
variable {f:Nat→Int × Int} {i:Nat} {base id:Nat} {K:ABlk→Heap}
theorem ints_at {l:List Int} {j:Nat} {x:Int} (h:l[j]?=some x):(ints l)[j]?=some (.int .i64 x):=by
 simp [ints,h]
theorem ld_lo (h:i<12):ldB (some (false,1)) (some (arB f)) 0 (i * 2)=some (.int .i64 (f i).1):=by
 have:=ints_at (bdF_at (f:=f) h).1
 simp only [ldB,if_true,Bool.false_eq_true,if_false]
 rwa [Nat.mul_comm]
theorem ld_hi (h:i<12):ldB (some (false,1)) (some (arB f)) 0 (i * 2+1)=some (.int .i64 (f i).2):=by
 have:=ints_at (bdF_at (f:=f) h).2
 simp only [ldB,if_true,Bool.false_eq_true,if_false]
 rwa [Nat.mul_comm i 2]
theorem ld_sp (h:i<12):ldB (some (true,2)) (some (arB f)) 0 (i * 2)=some (.agg [.int .i64 (f i).1,.int .i64 (f i).2]):=by
 have h1:=ints_at (bdF_at (f:=f) h).1
 have h2:=ints_at (bdF_at (f:=f) h).2
 obtain ⟨l1,e1⟩:=List.getElem?_eq_some_iff.1 h1
 obtain ⟨l2,e2⟩:=List.getElem?_eq_some_iff.1 h2
 have hl:(ints (bdF f)).length=24:=by rw [ints_length,bdF_len]
 simp only [ldB,if_true]
 rw [if_pos (by omega),Nat.mul_comm i 2,List.drop_eq_getElem_cons l1,e1]
 rw [List.drop_eq_getElem_cons l2,e2]
 rfl
theorem ld_all:ldB (some (true,24)) (some (arB f)) 0 0=some (.agg (ints (bdF f))):=by
 have hl:(ints (bdF f)).length=24:=by rw [ints_length,bdF_len]
 simp only [ldB,if_true]
 rw [if_pos (by omega),List.drop_zero,← hl,List.take_length]
theorem st_hi {y:Int} (h:i<12):stQ base id (some (arB f)) 0 (i * 2+1) [.int .i64 y] K=some (K (arB (setF f i ((f i).1,y)))):=by
 have hl:(ints (bdF f)).length=24:=by rw [ints_length,bdF_len]
 simp only [stQ]
 rw [if_pos ⟨trivial,by simp only [hl,List.length_singleton];omega,by simp [AVal.scalar],.inr (by simp [AVal.bare])⟩]
 simp only [splice,ints_set]
 rw [Nat.mul_comm i 2,bdF_hi h]
theorem st_sp {x y:Int} (h:i<12):stQ base id (some (arB f)) 0 (i * 2) [.int .i64 x,.int .i64 y] K=some (K (arB (setF f i (x,y)))):=by
 have hl:(ints (bdF f)).length=24:=by rw [ints_length,bdF_len]
 simp only [stQ]
 rw [if_pos ⟨trivial,by simp only [hl,List.length_cons,List.length_nil];omega,by simp [AVal.scalar],.inr (by simp [AVal.bare])⟩]
 simp only [splice,ints_set]
 rw [Nat.mul_comm i 2,bdF_set h]
theorem splice_full:∀ (vs pre c:List AVal),c.length=vs.length→splice (pre++c) pre.length vs=pre++vs
 | [],pre,c,h=>by rw [List.eq_nil_of_length_eq_zero h];rfl
 | v :: vs,pre,[],h=>by simp at h
 | v :: vs,pre,x :: c,h=>by
  rw [splice,List.set_append_right _ _ (Nat.le_refl _),Nat.sub_self,List.set_cons_zero]
  have:=splice_full vs (pre++[v]) c (by simpa using h)
  simpa using this
theorem st_all {c:List AVal} (hc:c.length=24):stQ base id (some ⟨.cells c 182 false false,0⟩) 0 0 (ints (bdF f)) K=some (K (arB f)):=by
 have hl:(ints (bdF f)).length=24:=by rw [ints_length,bdF_len]
 have hb:(ints (bdF f)).all AVal.bare=true:=by simp [ints,AVal.bare]
 have hs:(ints (bdF f)).all AVal.scalar=true:=by simp [ints,AVal.scalar]
 simp only [stQ]
 rw [if_pos ⟨trivial,by omega,hs,.inr hb⟩]
 have:=splice_full (ints (bdF f)) [] c (by omega)
 simp only [List.nil_append,List.length_nil] at this
 rw [this]
theorem stP_all {h:Heap}:stP prog base h 182 (.ptr (some ⟨id,0,0⟩)) (.agg (ints (bdF f)))=(stQ base id (h[id]?) 0 0 (ints (bdF f)) (fun b=>h.set id b)).map fun h'=>(undefA,h'):=stP_ptr (y:=.agg (ints (bdF f))) Fc.ty182 (by show 24=(ints (bdF f)).length;rw [ints_length,bdF_len])
end
end Go.AM
namespace Go.AM
open Go.Proofs.Tryz
attribute [-go_sem] put_ne put_same
attribute [local go_sem ↓] put_if
def nar (f:Nat→Int × Int) (i:Nat) (lo hi:Int):Nat→Int × Int:=setF f i (max (f i).1 lo,min (f i).2 hi)
set_option maxHeartbeats 1000000 in
theorem run_narrow {base bb i:Nat} {H:Heap} {f:Nat→Int × Int} {lo hi:Int} (hb:base≤H.length) (hg:H[bb]?=some (arB f)) (hi2:i<12) (hr:-1000000≤hi∧hi≤1000000) :
  Ret prog raw base (.fn 262 [] [.ptr (some ⟨bb,0,0⟩)]) [.int .i64 (i:Int),.int .i64 lo,.int .i64 hi] H (fun _ H'=>KeepX bb H H'∧H'[bb]?=some (arB (nar f i lo hi))):=by
 have lg:=lt_of_get hg
 have l1:=ld_lo (f:=f) hi2
 have l2:=ld_hi (f:=f) hi2
 have l3:=ld_sp (f:=f) hi2
 have hlt:((i:Int)<12)=True:=eq_true (by omega)
 obtain ⟨G,eG⟩:∃ G,G=H++[rowB [hi] 0]:=⟨_,rfl⟩
 have xG:Ext H G:=by rw [eG];exact .app .refl
 have iR:Ints G (.slice (some ⟨H.length,0,0⟩) 1 1) [hi]:=by rw [eG];exact slice_row rfl rfl ⟨by simp,fun z hz=>by rw [List.mem_singleton] at hz;omega⟩
 have ls:=fun base=>run_sleast (base:=base) (n:=(f i).2) iR
 have gG:=xG.get hg
 have lG:G.length=H.length+1:=by rw [eG];simp
 obtain ⟨K,eK⟩:∃ K,K=G++[spX (max (f i).1 lo) (min (f i).2 hi)]:=⟨_,rfl⟩
 have xK:Ext G K:=by rw [eK];exact .app .refl
 have gK:=xK.get gG
 have kx:K[G.length]?=some (spX (max (f i).1 lo) (min (f i).2 hi)):=by rw [eK];exact get_eq rfl
 have kK:KeepX bb H K:=.ofExt (xG.trans xK)
 unfold spX at eK kx
 by_cases c:max (f i).1 lo=(f i).1∧min (f i).2 hi=(f i).2
 ·have t1:(max (f i).1 lo=(f i).1∧min (f i).2 hi=(f i).2)=True:=eq_true c
  have e:bdF (nar f i lo hi)=bdF f:=bdF_ext fun j _=>by
   unfold nar setF
   split
   ·rename_i q;rw [q,c.1,c.2]
   ·rfl
  refine ret_raw func262 rfl (by kernel_rfl) ?_
  have hsp:=@Nat.succ_ne_zero;repeat' (first|simp (disch:=first|exact dqb|fail) only [go_sem,↓reduceIte,hsp,hg,l1,l2,bsrI,← eG,ls,← eK,kx,gK,l3,t1]|refine WP_drw ?_|refine cnd_intro (fun hsp=>?_) fun hsp=>?_)
  exact ⟨kK,by first|(rw [e];exact gK)|(unfold arB;rw [e])⟩
 ·have t1:(max (f i).1 lo=(f i).1∧min (f i).2 hi=(f i).2)=False:=eq_false c
  have st:=fun (KK:ABlk→Heap)=>st_sp (f:=f) (i:=i) (base:=base) (id:=bb) (K:=KK) (x:=max (f i).1 lo) (y:=min (f i).2 hi) hi2
  have lK:=lt_of_get gK
  refine ret_raw func262 rfl (by kernel_rfl) ?_
  have hsp:=@Nat.succ_ne_zero;repeat' (first|simp (disch:=first|exact dqb|fail) only [go_sem,↓reduceIte,hsp,hg,l1,l2,bsrI,← eG,ls,← eK,kx,gK,l3,t1,st]|refine WP_drw ?_|refine cnd_intro (fun hsp=>?_) fun hsp=>?_)
  first
   | exact ⟨kK.trans KeepX.refl.set,by rw [List.getElem?_set_self lK];rfl⟩
   | exact ⟨kK.trans KeepX.refl.set,rfl⟩
end Go.AM
namespace Go.AM
open Go.Proofs.Tryz
attribute [-go_sem] put_ne put_same
attribute [local go_sem ↓] put_if
theorem foldr_all {α:Type} {b:α→Bool} {F:α→Option Bool→Option Bool}:∀ {l:List α},(∀ x ∈ l,∀ acc,F x acc=match some (b x) with|some true=>acc|r=>r)→l.foldr F (some true)=some (l.all b)
 | [],_=>rfl
 | x :: l,h=>by
  rw [List.foldr_cons,foldr_all (l:=l) (fun y hy=>h y (List.mem_cons_of_mem _ hy)),h x (List.mem_cons_self),List.all_cons]
  cases b x<;>rfl
theorem part_bd {f:Nat→Int × Int} {i:Nat} (h:i<12):partQ (true,2) (ints (bdF f)) (i * 2)=some (.agg [.int .i64 (f i).1,.int .i64 (f i).2]):=by
 have h1:=ints_at (bdF_at (f:=f) h).1
 have h2:=ints_at (bdF_at (f:=f) h).2
 obtain ⟨l1,e1⟩:=List.getElem?_eq_some_iff.1 h1
 obtain ⟨l2,e2⟩:=List.getElem?_eq_some_iff.1 h2
 have hl:(ints (bdF f)).length=24:=by rw [ints_length,bdF_len]
 have hd:((ints (bdF f)).drop (i * 2)).take 2=[.int .i64 (f i).1,.int .i64 (f i).2]:=by
  rw [Nat.mul_comm i 2,List.drop_eq_getElem_cons l1,e1,List.drop_eq_getElem_cons l2,e2]
  rfl
 unfold partQ
 simp [hd,hl]
 try omega
theorem eq_sp2 {a b c d:Int}:eqT prog (eqDepth-1) 80 (.agg [.int .i64 a,.int .i64 b]) (.agg [.int .i64 c,.int .i64 d])=some (decide (a=c) && decide (b=d)):=by
 have s80:prog.stoodInHeld 80=false:=by kernel_rfl
 simp [eqDepth,eqT,partA,partQ,s80,underlying3,Fc.ty3,underlying80,Fc.ty80]
 by_cases e0:a=c<;>by_cases e1:b=d<;>simp [e0,e1]
theorem eq_bd {f g:Nat→Int × Int}:binA prog .eql 182 (.agg (ints (bdF f))) (.agg (ints (bdF g)))=some (.bool ((List.range 12).all fun i=>decide ((f i).1=(g i).1) && decide ((f i).2=(g i).2))):=by
 have h1:prog.eqGuardType prog.depth 182=false:=by kernel_rfl
 have h2:prog.underlying 182=some (.array 12 80):=by kernel_rfl
 have h3:eqDepth=(eqDepth-1)+1:=by decide
 have key:eqT prog eqDepth 182 (.agg (ints (bdF f))) (.agg (ints (bdF g)))=some ((List.range 12).all fun i=>decide ((f i).1=(g i).1) && decide ((f i).2=(g i).2)):=by
  rw [h3]
  unfold eqT
  simp only [h2,Fc.ty80]
  refine foldr_all fun i hi acc=>?_
  rw [List.mem_range] at hi
  simp only [part_bd hi,eq_sp2]
  generalize (decide ((f i).1=(g i).1) && decide ((f i).2=(g i).2))=b
  cases b<;>rfl
 simp only [binA,h1,key]
 rfl
end Go.AM
