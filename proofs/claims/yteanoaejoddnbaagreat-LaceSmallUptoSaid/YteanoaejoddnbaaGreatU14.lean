/-
  All orders that explain the rows: what goes on with the cards that are laced (orders$1$1).
-/
import Derived.Test.YteanoaejoddnbaaGreatU13
import Derived.Test.YteanoaejoddnbaaGreatU11
import Derived.Test.YteanoaejoddnbaaGreatU12
set_option linter.unusedSimpArgs false
set_option linter.unusedVariables false
namespace Go.AM
open Go.Proofs.Tryz
attribute [-go_sem] put_ne put_same
attribute [local go_sem ↓] put_if
def prZ (x:ABlk):Prop:=∀ (l:List AVal) ver,x ≠ rowE encZ 22 l ver
theorem prZ_box {c:List AVal} {t:TypeId} {ro:Bool} {u:Nat}:prZ ⟨.cells c t false ro,u⟩:=fun l ver q=>by simp [rowE] at q
theorem prZ_int {l:List Int} {ver:Nat}:prZ (rowE encI 3 l ver):=fun m ver' q=>by simp [rowE] at q
theorem KeepP.box {A i:Nat} {H H':Heap} {c:List AVal} {t:TypeId} {ro:Bool} {u:Nat} (k:KeepP A prZ H H') (hi:A≤i) (hg:H[i]?=some ⟨.cells c t false ro,u⟩):H'[i]?=some ⟨.cells c t false ro,u⟩:=k.2 _ _ hi prZ_box hg
theorem KeepP.ownI {A b:Nat} {H H':Heap} {v:AVal} {l:List Int} (k:KeepP A prZ H H') (hb:A≤b) (x:OwnE encI 3 b H v l):OwnE encI 3 b H' v l:=by
 rcases x with (x|⟨id,ver,h1,h2,h3,h4⟩)|x
 ·exact .inl (.inl x)
 ·exact .inl (.inr ⟨id,ver,h1,k.2 _ _ (by omega) prZ_int h2,h3,h4⟩)
 ·exact .inr x
abbrev pB (id:Nat):ABlk:=⟨.cells [.ptr (some ⟨id,0,0⟩)] 70 false false,0⟩
abbrev fnB (g:AVal):ABlk:=⟨.cells [g] 51 false false,0⟩
abbrev lB (v:AVal):ABlk:=⟨.cells [v] 22 false false,0⟩
abbrev morV (db yb mb:Nat):AVal:=.fn 121 [] [.ptr (some ⟨db,0,0⟩),.ptr (some ⟨yb,0,0⟩),.ptr (some ⟨mb,0,0⟩)]
def nxtF (L:Lac) (d:Nat) (l:List Int) (k:Int):List (List Int):=if k ∈ l then [] else ordsF (fitB L) L.C.length d (l++[k])
theorem ords_fit {L:Lac} {d:Nat} {l:List Int}:ordsF (fitB L) L.C.length (d+1) l=(fitL L l.length).flatMap (nxtF L d l):=by
 unfold fitL fitN
 rw [ordsF]
 generalize upto L.C.length=u
 induction u with
 | nil=>rfl
 | cons k u ih =>
  rw [List.flatMap_cons,List.filter_cons,ih]
  cases c:fitB L l.length k.toNat with
  | true =>
   rw [if_pos rfl,List.flatMap_cons]
   congr 1
   unfold nxtF
   by_cases h:k ∈ l
   ·simp [h]
   ·simp [h]
  | false=>simp
def cntF (L:Lac) (d:Nat) (l:List Int) (m:Nat):Nat:=(((fitL L l.length).take m).flatMap (nxtF L d l)).length
theorem cntF_succ {L:Lac} {d m:Nat} {l:List Int} {k:Int} (h:(fitL L l.length)[m]?=some k):cntF L d l (m+1)=cntF L d l m+(nxtF L d l k).length:=by
 unfold cntF
 rw [List.take_add_one,h,List.flatMap_append,List.length_append]
 simp
theorem ords_at {L:Lac} {d m i:Nat} {l:List Int} {k:Int} {t:List Int} (h:(fitL L l.length)[m]?=some k) (ht:(nxtF L d l k)[i]?=some t):(ordsF (fitB L) L.C.length (d+1) l)[cntF L d l m+i]?=some t:=by
 have hm:=(List.getElem?_eq_some_iff.1 h).1
 rw [ords_fit,← List.take_append_drop m (fitL L l.length),List.flatMap_append,List.getElem?_append_right (by unfold cntF;omega)]
 rw [show cntF L d l m+i-(((fitL L l.length).take m).flatMap (nxtF L d l)).length=i by unfold cntF;omega]
 rw [List.drop_eq_getElem_cons hm,List.flatMap_cons,List.getElem?_append_left (by
  have:=(List.getElem?_eq_some_iff.1 ht).1
  rw [List.getElem?_eq_getElem hm] at h
  rw [Option.some.inj h];exact this)]
 rw [List.getElem?_eq_getElem hm] at h
 rw [Option.some.inj h];exact ht
structure OrdS (L:Lac) (base Lx db id:Nat) (J:Nat→Heap→Prop) (S:Heap→Prop):Prop where
 bs:base≤Lx+1
 n:L.C.length≤7
 at':∀ j H,J j H→DskAt H id L∧H[db]?=some (pB id)∧Lx+1≤H.length
 app:∀ j H T,J j H→J j (H++T)
 yld:∀ j v t H,(fnd L)[j]?=some t→OwnE encI 3 (Lx+1) H v t→J j H→∃ b H',callL prog raw base (.yld Lx) [v] H=some (.bool b,H')∧KeepP (Lx+1) prZ H H'∧(b=true→J (j+1) H')∧(b=false→S H')
theorem OrdS.ext {L:Lac} {base Lx db id j:Nat} {J:Nat→Heap→Prop} {S:Heap→Prop} (x:OrdS L base Lx db id J S) {H H':Heap} (h:J j H) (e:Ext H H'):J j H':=by
 obtain ⟨T,rfl⟩:=e
 exact x.app j H T h
theorem ld_cards {H:Heap} {id:Nat} {T:Int} {cv rv:AVal} {fl:List Bool} (hg:H[id]?=some (dskB T cv rv fl)):loadP prog H 22 (.ptr (some ⟨id,0,1⟩))=some cv:=by
 rw [load_eq,Fc.ty22,hg,ldB_cell];rfl
def KbI (L:Lac) (Lx db id d:Nat) (l:List Int) (lv w1:AVal) (lb j:Nat) (J:Nat→Heap→Prop) (m:Nat) (H:Heap):Prop :=
 J (j+cntF L d l m) H∧H[Lx+1]?=some (fnB (.yld Lx))∧H[Lx+2]?=some (fnB (morV db (Lx+1) (Lx+2)))∧H[lb]?=some (lB lv)∧OwnE encI 3 (Lx+1) H lv l∧OwnE encI 3 (Lx+1) H w1 (fitL L l.length)
theorem KbI.keep {L:Lac} {Lx db id d lb j m m':Nat} {l:List Int} {lv w1:AVal} {J:Nat→Heap→Prop} {H H':Heap} (x:KbI L Lx db id d l lv w1 lb j J m H) (k:KeepP (Lx+1) prZ H H') (hlb:Lx+1≤lb) (h:J (j+cntF L d l m') H'):KbI L Lx db id d l lv w1 lb j J m' H':=by
 obtain ⟨_,a,b,c,e,f⟩:=x
 exact ⟨h,k.box (by omega) a,k.box (by omega) b,k.box hlb c,k.ownI (Nat.le_refl _) e,k.ownI (Nat.le_refl _) f⟩
theorem stL14 {base:Nat} {l:List Oper} {s:St} {Q:AExit→St→Prop}:WP prog raw base (.region 1 l.toArray true) s Q=WPS prog raw base (.region 1 l.toArray true) s Q:=WP_stop
attribute [local go_sem ↓ 3000] stL14
set_option maxRecDepth 100000 in
set_option maxHeartbeats 4000000 in
theorem run_cardO {L:Lac} {base Lx db id lb d j m:Nat} {J:Nat→Heap→Prop} {S:Heap→Prop} {l:List Int} {lv w1:AVal} {x:Int} {H:Heap} (hS:OrdS L base Lx db id J S) (hlb:Lx+1≤lb) (hl:l.length+(d+1)=L.C.length) (hin:∀ x ∈ l,0≤x∧x<(L.C.length:Int))
  (hx:(fitL L l.length)[m]?=some x) (hK:KbI L Lx db id d l lv w1 lb j J m H)
  (hat:∀ i t,(ordsF (fitB L) L.C.length (d+1) l)[i]?=some t→(fnd L)[j+i]?=some t)
  (ih:∀ {l:List Int} {lv:AVal} {H:Heap} {j:Nat},l.length+d=L.C.length→J j H→H[Lx+1]?=some (fnB (.yld Lx))→H[Lx+2]?=some (fnB (morV db (Lx+1) (Lx+2)))→OwnE encI 3 (Lx+1) H lv l→(∀ x ∈ l,0≤x∧x<(L.C.length:Int)) →
   (∀ i t,(ordsF (fitB L) L.C.length d l)[i]?=some t→(fnd L)[j+i]?=some t) →
   Ret prog raw base (morV db (Lx+1) (Lx+2)) [lv] H (fun w H'=>KeepP (Lx+1) prZ H H'∧∃ b,w=.bool b∧(b=true→J (j+(ordsF (fitB L) L.C.length d l).length) H')∧(b=false→S H'))) :
  Ret prog raw base (.fn 122 [] [.ptr (some ⟨lb,0,0⟩),.ptr (some ⟨Lx+2,0,0⟩)]) [.int .i64 x] H (fun w H'=>KeepP (Lx+1) prZ H H'∧∃ b,w=.bool b∧(b=true→KbI L Lx db id d l lv w1 lb j J (m+1) H')∧(b=false→S H')):=by
 have hK0:=hK
 obtain ⟨hJ,gy,gm,gl,hO,hW⟩:=hK
 obtain ⟨-,gdb,hH⟩:=hS.at' _ H hJ
 have hbase:=hS.bs
 have hn:=hS.n
 have ldb:=lt_of_get gdb
 have lm:=lt_of_get gm
 have ll:=lt_of_get gl
 have ly:=lt_of_get gy
 have olv:=hO.one
 have hsl:Small l:=⟨by omega,fun x hx=>by have:=hin x hx;omega⟩
 have hIl:=ownE_ints hO hsl
 have hct:=run_contains (base:=base) (x:=x) hIl
 have hxr:0≤x∧x<(L.C.length:Int):=fitN_mem (List.mem_of_getElem? hx)
 by_cases c:x ∈ l
 ·rw [decide_eq_true c] at hct
  refine ret_raw func122 rfl (by kernel_rfl) ?_
  unfold lB at gl
  unfold fnB at gm
  have hsp:=@Nat.succ_ne_zero;repeat' (first|simp (disch:=first|exact dq|fail) only [go_sem,↓reduceIte,hsp]|refine WP_drw ?_|refine cnd_intro (fun hsp=>?_) fun hsp=>?_)
  refine WPS_go ?_
  refine WP_wildG [] [⟨4,8,true⟩] (by kernel_rfl) (by kernel_rfl) (by kernel_rfl) (by kernel_rfl) trivial fun K hK=>?_
  iterate 13
   rw [TRS_cons]
   refine ⟨by first|(simp (disch:=first|exact dq|fail) only [go_sem,↓reduceIte,gl,gm,hct,ldsQ_cons,ldsQ_nil,grdQ_cons,grdQ_nil,if_true,Nat.reduceLeDiff];done)|exact trivial,?_⟩
   simp (disch:=first|exact dq|fail) only [go_sem,↓reduceIte,gl,gm,hct]
  rw [TRS_nil]
  refine ⟨by first|(simp (disch:=first|exact dq|fail) only [go_sem,↓reduceIte,gl,gm,hct,ldsQ_cons,ldsQ_nil,grdQ_cons,grdQ_nil,if_true,Nat.reduceLeDiff];done)|exact trivial,?_⟩
  subst hK
  have hsp:=@Nat.succ_ne_zero;repeat' (first|simp (disch:=first|exact dq|fail) only [go_sem,↓reduceIte,hsp]|refine WP_drw ?_|refine cnd_intro (fun hsp=>?_) fun hsp=>?_)
  refine ⟨KeepP.refl,true,rfl,fun _=>hK0.keep KeepP.refl hlb ?_,fun q=>by cases q⟩
  rw [cntF_succ hx,show nxtF L d l x=[] from if_pos c]
  exact hJ
 ·rw [decide_eq_false c] at hct
  have hnx:nxtF L d l x=ordsF (fitB L) L.C.length d (l++[x]):=if_neg c
  obtain ⟨v1,H1,e1,x1,o1⟩:=run_cloneE (base:=base) hIl hsl
  have l1:=x1.len
  obtain ⟨v2,H2,ea,o2,l2,ex2,ov2,k2⟩:=OwnE.snocI (base:=base) (x:=x) o1 (by omega) l1 (by omega)
  have x2:Ext H H2:=ex2 _ (Nat.le_refl _) x1
  obtain ⟨w3,H3,e3,k3,b,rfl,c1,c2⟩:=ih (l:=l++[x]) (lv:=v2) (H:=H2) (j:=j+cntF L d l m) (by simp;omega) (hS.ext hJ x2) (x2.get gy) (x2.get gm) (OwnE.low (b':=Lx+1) (.inl o2) (by omega))
   (fun y hy=>by
    rcases List.mem_append.1 hy with q|q
    ·exact hin y q
    ·simp at q;rw [q];exact hxr)
   (fun i t ht=>by
    have:=hat _ t (ords_at hx (by rw [hnx];exact ht))
    rwa [← Nat.add_assoc] at this)
  have l3:=k3.1
  have kf:KeepP (Lx+1) prZ H H3:=(KeepP.ofExt x2).trans k3
  have gl1:=x1.get gl
  have gm1:=x1.get gm
  have gm2:=x2.get gm
  have hlow:refsLow H.length (morV db (Lx+1) (Lx+2)):=by simp [refsLow,AVal.refs,refsL,ldb,ly,lm]
  refine ret_raw func122 rfl (by kernel_rfl) ?_
  unfold lB at gl gl1
  unfold fnB at gm gm1 gm2
  have hsp:=@Nat.succ_ne_zero;repeat' (first|simp (disch:=first|exact dq|fail) only [go_sem,↓reduceIte,hsp]|refine WP_drw ?_|refine cnd_intro (fun hsp=>?_) fun hsp=>?_)
  refine WPS_go ?_
  refine WP_wildG [⟨4,51,2,⟨Lx+2,0,0⟩,morV db (Lx+1) (Lx+2),10⟩] [] (by kernel_rfl) (by kernel_rfl) (by kernel_rfl) (by kernel_rfl) ⟨hlow,trivial⟩ fun K hK=>?_
  iterate 13
   rw [TRS_cons]
   refine ⟨by first|(simp (disch:=first|exact dq|fail) only [go_sem,↓reduceIte,gl,gm,gl1,gm1,gm2,hct,e1,ea,e3,ldsQ_cons,ldsQ_nil,grdQ_cons,grdQ_nil,if_true,Nat.reduceLeDiff];done)|exact trivial,?_⟩
   simp (disch:=first|exact dq|fail) only [go_sem,↓reduceIte,gl,gm,gl1,gm1,gm2,hct,e1,ea,e3]
  rw [TRS_nil]
  refine ⟨by first|(simp (disch:=first|exact dq|fail) only [go_sem,↓reduceIte,gl,gm,gl1,gm1,gm2,hct,e1,ea,e3,ldsQ_cons,ldsQ_nil,grdQ_cons,grdQ_nil,if_true,Nat.reduceLeDiff];done)|exact trivial,?_⟩
  subst hK
  have hsp:=@Nat.succ_ne_zero;repeat' (first|simp (disch:=first|exact dq|fail) only [go_sem,↓reduceIte,hsp]|refine WP_drw ?_|refine cnd_intro (fun hsp=>?_) fun hsp=>?_)
  refine ⟨kf,b,rfl,fun q=>hK0.keep kf hlb ?_,c2⟩
  have:=c1 q
  rw [cntF_succ hx,hnx,← Nat.add_assoc]
  exact this
set_option maxRecDepth 100000 in
set_option maxHeartbeats 4000000 in
theorem run_moreO {L:Lac} {base Lx db id:Nat} {J:Nat→Heap→Prop} {S:Heap→Prop} (hS:OrdS L base Lx db id J S) :
  ∀ (d:Nat) {l:List Int} {lv:AVal} {H:Heap} {j:Nat},l.length+d=L.C.length→J j H→H[Lx+1]?=some (fnB (.yld Lx))→H[Lx+2]?=some (fnB (morV db (Lx+1) (Lx+2)))→OwnE encI 3 (Lx+1) H lv l→(∀ x ∈ l,0≤x∧x<(L.C.length:Int)) →
  (∀ i t,(ordsF (fitB L) L.C.length d l)[i]?=some t→(fnd L)[j+i]?=some t) →
  Ret prog raw base (morV db (Lx+1) (Lx+2)) [lv] H (fun w H'=>KeepP (Lx+1) prZ H H'∧∃ b,w=.bool b∧(b=true→J (j+(ordsF (fitB L) L.C.length d l).length) H')∧(b=false→S H')):=by
 intro d
 induction d with
 | zero =>
  intro l lv H j hl hJ gy gm hO hin hat
  obtain ⟨⟨cv,rv,gd,hC,hR⟩,gdb,hH⟩:=hS.at' j H hJ
  have hbase:=hS.bs
  have ly:=lt_of_get gy
  have lm:=lt_of_get gm
  have ldb:=lt_of_get gdb
  have lid:=lt_of_get gd
  have olv:=hO.one
  have hn:=hS.n
  have hl0:=lenI (ownE_ints hO ⟨by omega,fun x hx=>by have:=hin x hx;omega⟩)
  obtain ⟨G,eG⟩:∃ G,G=H++[lB lv]:=⟨_,rfl⟩
  have xG:Ext H G:=by rw [eG];exact .app .refl
  have gl:G[H.length]?=some (lB lv):=by rw [eG];exact get_eq rfl
  have hlv:lenOpA prog G 22 lv=some (.int .i64 (l.length:Int)):=lenI ((ownE_ints hO ⟨by omega,fun x hx=>by have:=hin x hx;omega⟩).ext xG)
  have hlc:=lenI (hC.ext xG)
  have gdG:=xG.get gd
  have lc:=ld_cards gdG
  have gyG:=xG.get gy
  have gdbG:=xG.get gdb
  have t1:((l.length:Int)=(L.C.length:Int))=True:=eq_true (by omega)
  have hat0:=hat 0 l rfl
  rw [Nat.add_zero] at hat0
  obtain ⟨b,H',ey,ky,y1,y2⟩:=hS.yld j lv l G hat0 (hO.ext xG) (hS.ext hJ xG)
  have hly:=ky.1
  have lGl:=xG.len
  unfold lB at eG gl
  refine ret_raw func121 rfl (by kernel_rfl) ?_
  have hsp:=@Nat.succ_ne_zero;repeat' (first|simp (disch:=first|exact dq|fail) only [go_sem,↓reduceIte,hsp,← eG,gl]|refine WP_drw ?_|refine cnd_intro (fun hsp=>?_) fun hsp=>?_)
  refine WPS_go ?_
  refine WP_drw ?_
  have hsp:=@Nat.succ_ne_zero;repeat' (first|simp (disch:=first|exact dq|fail) only [go_sem,↓reduceIte,hsp,gl,gdbG,lc,hlv,hlc,t1,gyG,ey]|refine WP_drw ?_|refine cnd_intro (fun hsp=>?_) fun hsp=>?_)
  refine ⟨(KeepP.ofExt xG).trans ky,b,rfl,fun q=>?_,y2⟩
  exact y1 q
 | succ d ih =>
  intro l lv H j hl hJ gy gm hO hin hat
  obtain ⟨⟨cv,rv,gd,hC,hR⟩,gdb,hH⟩:=hS.at' j H hJ
  have hbase:=hS.bs
  have ly:=lt_of_get gy
  have lm:=lt_of_get gm
  have ldb:=lt_of_get gdb
  have lid:=lt_of_get gd
  have olv:=hO.one
  have hn:=hS.n
  obtain ⟨G,eG⟩:∃ G,G=H++[lB lv]:=⟨_,rfl⟩
  have xG:Ext H G:=by rw [eG];exact .app .refl
  have gl:G[H.length]?=some (lB lv):=by rw [eG];exact get_eq rfl
  have hlv:lenOpA prog G 22 lv=some (.int .i64 (l.length:Int)):=lenI ((ownE_ints hO ⟨by omega,fun x hx=>by have:=hin x hx;omega⟩).ext xG)
  have hlc:=lenI (hC.ext xG)
  have gdG:=xG.get gd
  have lc:=ld_cards gdG
  have gdbG:=xG.get gdb
  have lGl:=xG.len
  have t1:((l.length:Int)=(L.C.length:Int))=False:=eq_false (by omega)
  obtain ⟨w1,H1,e1,x1,o1⟩:=run_fit (base:=base) (h:=G) (id:=id) (p:=l.length) (by omega) ⟨cv,rv,gdG,hC.ext xG,hR.ext xG⟩ hn (by omega)
  have ow1:=o1.one
  have l1:=x1.len
  have hfl:(fitL L l.length).length≤7:=Nat.le_trans fitN_len hn
  have hfs:Small (fitL L l.length):=⟨by omega,fun x hx=>by have:=fitN_mem hx;omega⟩
  have hK0:KbI L Lx db id d l lv w1 H.length j J 0 (H1++[evB (.fn 122 [] [.ptr (some ⟨H.length,0,0⟩),.ptr (some ⟨Lx+2,0,0⟩)])]):=by
   have e:=(xG.trans x1).trans (Ext.app (t:=[evB (.fn 122 [] [.ptr (some ⟨H.length,0,0⟩),.ptr (some ⟨Lx+2,0,0⟩)])]) .refl)
   exact ⟨hS.ext hJ e,e.get gy,e.get gm,(x1.trans (.app .refl)).get gl,hO.ext e,OwnE.ext (OwnE.low (b':=Lx+1) (.inl o1) (by omega)) (.app .refl)⟩
  obtain ⟨w2,H2,e2,k2,b,rfl,z1,z2⟩:=everyS_I (base:=base) (A:=Lx+1) (pr:=prZ) (h:=H1) (v:=w1) (g:=.fn 122 [] [.ptr (some ⟨H.length,0,0⟩),.ptr (some ⟨Lx+2,0,0⟩)]) (l:=fitL L l.length)
   (J:=KbI L Lx db id d l lv w1 H.length j J) (S:=fun _=>S) (by omega) ⟨rfl,rfl,rfl⟩ (by omega) prZ_box (fun m K q=>ownE_ints q.2.2.2.2.2 hfs)
   (fun m x K hx hKl hK=>by
    obtain ⟨w,K2,e,k,b,rfl,c1,c2⟩:=run_cardO hS (by omega) hl hin hx hK hat (fun {l lv H j}=>ih)
    exact ⟨b,K2,e,k,c1,c2⟩) hK0
  have hk2:=k2.1
  unfold lB at eG gl
  refine ret_raw func121 rfl (by kernel_rfl) ?_
  have hsp:=@Nat.succ_ne_zero;repeat' (first|simp (disch:=first|exact dq|fail) only [go_sem,↓reduceIte,hsp,← eG,gl]|refine WP_drw ?_|refine cnd_intro (fun hsp=>?_) fun hsp=>?_)
  refine WPS_go ?_
  refine WP_drw ?_
  have hsp:=@Nat.succ_ne_zero;repeat' (first|simp (disch:=first|exact dq|fail) only [go_sem,↓reduceIte,hsp,gl,gdbG,lc,hlv,hlc,t1,e1,e2]|refine WP_drw ?_|refine cnd_intro (fun hsp=>?_) fun hsp=>?_)
  refine ⟨(KeepP.ofExt (xG.trans x1)).trans k2,b,rfl,fun q=>?_,fun q=>(z2 q).elim fun n h=>h.2⟩
  have:=(z1 q).1
  unfold cntF at this
  rw [List.take_length,← ords_fit] at this
  exact this
end Go.AM
namespace Go.AM
open Go.Proofs.Tryz
attribute [-go_sem] put_ne put_same
attribute [local go_sem ↓] put_if
theorem fnd_nof {L:Lac} (hn:L.C.length≤7) (h:nofB L=true):fnd L=[]:=by
 obtain ⟨p,hp,q⟩:=(nofB_no hn).1 h
 refine List.eq_nil_iff_forall_not_mem.2 fun o ho=>?_
 obtain ⟨⟨h1,h2,_⟩,h4⟩:=fnd_mem.1 ho
 have h5:=h4 p (by omega)
 have h6:=h2 _ (getD_mem (l:=o) (i:=p) (by omega))
 rw [q _ (by omega)] at h5
 cases h5
def XO (L:Lac) (Lx j:Nat) (a:List AVal) (H:Heap):Prop:=∃ v t,a=[v]∧(fnd L)[j]?=some t∧OwnE encI 3 (Lx+1) H v t
set_option maxRecDepth 100000 in
set_option maxHeartbeats 2000000 in
theorem orders_yields {L:Lac} {base Lx db id:Nat} {I:Nat→Heap→Prop} (hn:L.C.length≤7) (hb:base≤Lx+1) (hI:∀ j H,I j H→DskAt H id L∧H[db]?=some (pB id)) :
  YieldsX prog raw base Lx (.fn 119 [] [.ptr (some ⟨db,0,0⟩)]) (fnd L).length (XO L Lx) prZ I:=by
 intro J S H0 hL hJI happ hcb h0
 have hS:OrdS L base Lx db id J S:=⟨hb,hn,fun j H q=>⟨(hI _ _ (hJI j H q).1).1,(hI _ _ (hJI j H q).1).2,(hJI j H q).2⟩,happ,fun j v t H ht hO hJ=>by
  obtain ⟨b,H',e,k,l,y1,y2⟩:=hcb j [v] H (List.getElem?_eq_some_iff.1 ht).1 ⟨v,t,rfl,ht,hO⟩ hJ
  exact ⟨b,H',e,⟨l,k⟩,y1,y2⟩⟩
 obtain ⟨⟨cv,rv,gd,hC,hR⟩,gdb,hH⟩:=hS.at' 0 H0 h0
 have ldb:=lt_of_get gdb
 have lid:=lt_of_get gd
 obtain ⟨G,eG⟩:∃ G,G=H0++[fnB (.yld Lx)]:=⟨_,rfl⟩
 have xG:Ext H0 G:=by rw [eG];exact .app .refl
 have gy:G[H0.length]?=some (fnB (.yld Lx)):=by rw [eG];exact get_eq rfl
 have lG:G.length=H0.length+1:=by rw [eG];simp
 have gdG:=xG.get gd
 have gdbG:=xG.get gdb
 have lc:=ld_cards gdG
 have hlc:=lenI (hC.ext xG)
 have sl:sliceA prog 79 (.ptr (some ⟨id,0,3⟩)) none (some (.int .i64 (L.C.length:Int))) none=some (.slice (some ⟨id,0,3⟩) L.C.length 7):=by
  simp only [sliceA,Fc.ar79,optB,boundI (show (0:Int)≤(L.C.length:Int) by omega) (show (L.C.length:Int)≤((7:Nat):Int) by omega)]
  simp [ARef.add]
 have hc7:=run_cont7 (base:=base) gdG hn
 have bz:buildA prog 77 []=some z7:=by simp [buildA,Fc.zc77,fillA];kernel_rfl
 suffices hh:Ret prog raw base (.fn 119 [] [.ptr (some ⟨db,0,0⟩)]) [.yld Lx] H0 (fun w H'=>J (fnd L).length H' ∨ S H') by
  obtain ⟨w,H',e,k⟩:=hh
  exact ⟨w,H',e,k⟩
 unfold fnB at eG gy
 unfold z7 at hc7 bz
 cases c:nofB L with
 | true =>
  rw [c] at hc7
  refine ret_raw func119 rfl (by kernel_rfl) ?_
  have hsp:=@Nat.succ_ne_zero;repeat' (first|simp (disch:=first|exact dq|fail) only [go_sem,↓reduceIte,hsp,← eG,gdbG,lc,hlc,sl,bz,hc7]|refine WP_drw ?_|refine cnd_intro (fun hsp=>?_) fun hsp=>?_)
  rw [fnd_nof hn c]
  exact .inl (hS.ext h0 xG)
 | false =>
  rw [c] at hc7
  obtain ⟨G2,eG2⟩:∃ G2,G2=G++[fnB (morV db (Lx+1) (Lx+2))]:=⟨_,rfl⟩
  have x2:Ext G G2:=by rw [eG2];exact .app .refl
  have gm:G2[Lx+2]?=some (fnB (morV db (Lx+1) (Lx+2))):=by rw [eG2];exact get_eq (by omega)
  obtain ⟨w,H',e1,k1,b,rfl,c1,c2⟩:=run_moreO hS L.C.length (l:=[]) (lv:=.slice none 0 0) (H:=G2) (j:=0) (by simp) (hS.ext h0 (xG.trans x2)) (by have:=x2.get gy;rwa [← hL] at this) gm (.inl Own.nil) (fun x hx=>by simp at hx) (fun i t ht=>by rw [Nat.zero_add];exact ht)
  have l2:G2.length=G.length+1:=by rw [eG2];simp
  have hk1:=k1.1
  have gmm:G2[G.length]?=some (fnB (morV db (Lx+1) (Lx+2))):=by rw [show G.length=Lx+2 by omega];exact gm
  unfold morV at e1 gmm eG2
  unfold fnB at gmm eG2
  rw [show Lx+2=G.length by omega,show Lx+1=H0.length by omega] at e1 gmm eG2
  refine ret_raw func119 rfl (by kernel_rfl) ?_
  have hsp:=@Nat.succ_ne_zero;repeat' (first|simp (disch:=first|exact dq|fail) only [go_sem,↓reduceIte,hsp,← eG,gdbG,lc,hlc,sl,bz,hc7,← eG2,gmm,e1]|refine WP_drw ?_|refine cnd_intro (fun hsp=>?_) fun hsp=>?_)
  rw [Nat.zero_add] at c1
  cases b with
  | true=>exact .inl (c1 rfl)
  | false=>exact .inr (c2 rfl)
theorem run_orders {base id:Nat} {h:Heap}:Ret prog raw base (.fn 91 [] []) [.ptr (some ⟨id,0,0⟩)] h (fun w H=>w=.fn 119 [] [.ptr (some ⟨h.length,0,0⟩)]∧H=h++[pB id]):=by
 unfold pB
 refine ret_raw func91 rfl (by kernel_rfl) ?_
 have hsp:=@Nat.succ_ne_zero;repeat' (first|simp (disch:=first|exact dq|fail) only [go_sem,↓reduceIte,hsp]|refine WP_drw ?_|refine cnd_intro (fun hsp=>?_) fun hsp=>?_)
end Go.AM
namespace Go.AM
open Go.Proofs.Tryz
attribute [-go_sem] put_ne put_same
attribute [local go_sem ↓] put_if
def AllB (b:Nat) (H:Heap) (v:AVal) (ts:List (List Int)):Prop:=∃ vs:List AVal,Own encZ 22 b H v vs∧vs.length=ts.length∧∀ (i:Nat) x t,vs[i]?=some x→ts[i]?=some t→OwnE encI 3 b H x t
section
variable {b:Nat} {H H':Heap} {v:AVal} {ts:List (List Int)}
theorem AllB.all (x:AllB b H v ts):AllI b H v ts:=by
 obtain ⟨vs,h1,h2,h3⟩:=x
 exact ⟨vs,h1,h2,fun i x t a c=>(h3 i x t a c).low (Nat.zero_le _)⟩
theorem AllB.ext (x:AllB b H v ts) (e:Ext H H'):AllB b H' v ts:=by
 obtain ⟨vs,h1,h2,h3⟩:=x
 exact ⟨vs,h1.ext e,h2,fun i x t a c=>(h3 i x t a c).ext e⟩
theorem AllB.set {i:Nat} {k:ABlk} (x:AllB b H v ts) (hi:i<b):AllB b (H.set i k) v ts:=by
 obtain ⟨vs,h1,h2,h3⟩:=x
 exact ⟨vs,h1.set hi,h2,fun i x t a c=>(h3 i x t a c).imp (fun z=>z.set hi) id⟩
theorem AllB.one (x:AllB b H v ts):One v:=by obtain ⟨vs,h1,_⟩:=x;exact h1.one
theorem AllB.low {b':Nat} (x:AllB b H v ts) (hb:b'≤b):AllB b' H v ts:=by
 obtain ⟨vs,h1,h2,h3⟩:=x
 exact ⟨vs,h1.low hb,h2,fun i x t a c=>(h3 i x t a c).low hb⟩
theorem AllB.snoc {A:Heap} {w x:AVal} {t:List Int} {base:Nat} (y:AllB b A w ts) (hx:OwnE encI 3 b A x t) (hb:base≤b) (hbh:b≤A.length) (hl:ts.length≤10000000) :
  ∃ z A',(∀ {lit:Bool},lit=true→bsA prog lit A 32 1 [(0,x)]=some (z,A'))∧Ext A A'∧∃ w' h',appendA prog base A' 32 w z=some (w',h')∧AllB b h' w' (ts++[t])∧A.length≤h'.length∧(∀ G,G.length≤b→Ext G A→Ext G h')∧One w'∧KeepO encZ 22 A h':=by
 obtain ⟨vs,h1,h2,h3⟩:=y
 obtain ⟨z,A',a1,a2,w',h',a3,a4,a5,a6,a7,a8⟩:=snocZI (base:=base) h1 hx.one hb hbh (by omega)
 refine ⟨z,A',a1,a2,w',h',a3,⟨_,a4,by simp [h2],fun i p q g1 g2=>?_⟩,a5,a6,a7,a8⟩
 by_cases hi:i<vs.length
 ·rw [List.getElem?_append_left hi] at g1
  rw [List.getElem?_append_left (by omega)] at g2
  exact a8.ownE (h3 i p q g1 g2) (by decide)
 ·rw [List.getElem?_append_right (by omega)] at g1
  rw [List.getElem?_append_right (by omega)] at g2
  have e0:i-vs.length=0:=by
   have:=(List.getElem?_eq_some_iff.1 g1).1
   simp at this;omega
  rw [e0] at g1
  rw [show i-ts.length=0 by omega] at g2
  cases g1;cases g2
  exact a8.ownE hx (by decide)
end
theorem ordsF_few {fit:Nat→Nat→Bool} {n:Nat}:∀ {d:Nat} {l:List Int},(ordsF fit n d l).length≤n ^ d
 | 0,l=>by simp [ordsF]
 | d+1,l=>by
  have hk:∀ k:Int,(if (fit l.length k.toNat && decide (k ∉ l))=true then ordsF fit n d (l++[k]) else []).length≤n ^ d:=fun k=>by
   split
   ·exact ordsF_few
   ·simp
  rw [ordsF,Nat.pow_succ]
  have:∀ u:List Int,(u.flatMap fun k=>if (fit l.length k.toNat && decide (k ∉ l))=true then ordsF fit n d (l++[k]) else []).length≤u.length * n ^ d:=fun u=>by
   induction u with
   | nil=>simp
   | cons k u ih =>
    rw [List.flatMap_cons,List.length_append,List.length_cons,Nat.add_mul,Nat.one_mul]
    have:=hk k
    omega
  have h2:=this (upto n)
  rw [upto_len,Nat.mul_comm] at h2
  exact h2
theorem fnd_few {L:Lac} (hn:L.C.length≤7):(fnd L).length≤823543:=by
 refine Nat.le_trans ordsF_few ?_
 exact Nat.le_trans (Nat.pow_le_pow_left hn _) (Nat.pow_le_pow_right (by decide) hn)
def fndE (L:Lac):List (List Int) × Int:=if chkL L ≠ 0 then ([],chkL L) else if fnd L=[] then ([],7) else (fnd L,0)
abbrev lsB (v:AVal):ABlk:=⟨.cells [v] 32 false false,0⟩
set_option maxRecDepth 100000 in
set_option maxHeartbeats 4000000 in
theorem run_found {base:Nat} {h:Heap} {v:AVal} {L:Lac} (hb:base≤h.length) (hL:LacAt h v L) :
  Ret prog raw base (.fn 43 [] []) [v] h (fun w H=>Ext h H∧∃ a x,w=.tuple [a,x,.int .i64 (fndE L).2]∧One a∧AllB h.length H x (fndE L).1∧((fndE L).2=0→∃ id,a=.ptr (some ⟨id,0,0⟩)∧DskAt H id L)):=by
 have hL0:=hL
 obtain ⟨cv,rv,rfl,hC,hR⟩:=hL
 have o1:=hC.one
 have o2:=hR.one
 obtain ⟨G0,eG0⟩:∃ G0,G0=h++[lacB L.T cv rv]:=⟨_,rfl⟩
 have x0:Ext h G0:=by rw [eG0];exact .app .refl
 have g0:G0[h.length]?=some (lacB L.T cv rv):=by rw [eG0];exact get_eq rfl
 have l0:G0.length=h.length+1:=by rw [eG0];simp
 obtain ⟨w1,H1,e1,x1,r1,r2⟩:=run_opened (base:=base) (h:=G0) (by omega) (hL0.ext x0)
 have l1:=x1.len
 unfold lacB at eG0 g0
 by_cases c0:chkL L=0
 ·obtain ⟨id,rfl,hid,hD⟩:=r2 c0
  obtain ⟨kT,kn,km,kc,kr,kd⟩:=chkL_iff.1 c0
  obtain ⟨H2,eH2⟩:∃ H2,H2=H1++[lsB (.slice none 0 0)]:=⟨_,rfl⟩
  have x2:Ext H1 H2:=by rw [eH2];exact .app .refl
  have g2:H2[H1.length]?=some (lsB (.slice none 0 0)):=by rw [eH2];exact get_eq rfl
  have l2:H2.length=H1.length+1:=by rw [eH2];simp
  obtain ⟨w3,H3,e3,rfl,eH3⟩:=run_orders (base:=base) (id:=id) (h:=H2)
  have x3:Ext H2 H3:=by rw [eH3];exact .app .refl
  have l3:H3.length=H1.length+2:=by rw [eH3];simp [l2]
  have gdb:H3[H2.length]?=some (pB id):=by rw [eH3];exact get_eq rfl
  unfold lsB at eH2 g2
  refine ret_raw func43 rfl (by kernel_rfl) ?_
  have hsp:=@Nat.succ_ne_zero;repeat' (first|simp (disch:=first|exact dq|fail) only [go_sem,↓reduceIte,hsp,← eG0,g0,e1,eq_self,← eH2,e3]|refine WP_drw ?_|refine cnd_intro (fun hsp=>?_) fun hsp=>?_)
  refine WP_rangeX (by simp (disch:=first|exact dq|fail) only [go_sem,↓reduceIte]) (N:=(fnd L).length) (X:=XO L H3.length) (pr:=prZ) (fun j H=>H3.length+1≤H.length∧Ext H1 H∧H[H2.length]?=some (pB id)∧∃ v,H[H1.length]?=some (lsB v)∧AllB (H3.length+1) H v ((fnd L).take j)) (fun _ _=>False)
   (orders_yields (id:=id) (db:=H2.length) kn.2 (by omega) (fun j H q=>⟨hD.ext q.2.1,q.2.2.1⟩)) ?_ ?_ ?_ ?_ ?_ ?_ ?_ ?_
  ·rintro j a H ⟨v,t,rfl,_⟩;rfl
  ·rintro j H T ⟨a,b,c,v,d,e⟩
   exact ⟨by simp;omega,b.trans (.app .refl),get_app c,v,get_app d,e.ext (.app .refl)⟩
  ·rintro j H B ⟨a,b,c,v,d,e⟩
   exact ⟨by simpa using a,b.set (by omega),by rw [List.getElem?_set_ne (by omega)];exact c,v,by rw [List.getElem?_set_ne (by omega)];exact d,e.set (by omega)⟩
  ·intro e H B q;exact q
  ·exact ⟨by simp,(x2.trans x3).trans (.app .refl),get_app gdb,.slice none 0 0,(x3.trans (.app .refl)).get g2,[],Own.nil,rfl,fun i x t q=>by simp at q⟩
  ·rintro j a H B1 B2 hj ⟨v,t,rfl,ht,hO⟩ ⟨hI1,hI2,hI3,u,hI4,hI5⟩ hHl hB
   have ov:=hO.one
   obtain ⟨K,eK⟩:∃ K,K=H.set H3.length B2:=⟨_,rfl⟩
   have lK:K.length=H.length:=by rw [eK,List.length_set]
   have gKB:K[H3.length]?=some B2:=by rw [eK,List.getElem?_set_self (by omega)]
   have gK4:K[H1.length]?=some (lsB u):=by rw [eK,List.getElem?_set_ne (by omega)];exact hI4
   have gK3:K[H2.length]?=some (pB id):=by rw [eK,List.getElem?_set_ne (by omega)];exact hI3
   have xK:Ext H1 K:=by rw [eK];exact hI2.set (by omega)
   have aK:AllB (H3.length+1) K u ((fnd L).take j):=by rw [eK];exact hI5.set (by omega)
   have oK:OwnE encI 3 (H3.length+1) K v t:=by rw [eK];exact hO.imp (fun z=>z.set (by omega)) fun q=>q
   have ou:=aK.one
   have hfew:=fnd_few (L:=L) kn.2
   obtain ⟨z,A',b1,xA,w',h',ea,aW,lW,eW,oneW,kW⟩:=aK.snoc (base:=base) oK (by omega) (by omega) (by rw [List.length_take];omega)
   have gA4:=xA.get gK4
   have gh4:h'[H1.length]?=some (lsB u):=kW.box gK4
   have gh3:h'[H2.length]?=some (pB id):=kW.box gK3
   have ghB:h'[H3.length]?=some B2:=by
    have:=eW (K.take (H3.length+1)) (by simp;omega) ⟨K.drop (H3.length+1),(List.take_append_drop _ _).symm⟩
    refine this.get ?_
    rw [List.getElem?_take,if_pos (by omega)];exact gKB
   have xh':Ext H1 h':=eW _ (by omega) xK
   unfold lsB at gK4 gA4 gh4
   have hsp:=@Nat.succ_ne_zero;repeat' (first|simp (disch:=first|exact dq|fail) only [go_sem,↓reduceIte,hsp,hB,← eK,gK4,b1,ea,gh4]|refine WP_drw ?_|refine cnd_intro (fun hsp=>?_) fun hsp=>?_)
   have htk:(fnd L).take (j+1)=(fnd L).take j++[t]:=by rw [List.take_add_one,ht];rfl
   refine ⟨ghB,fun i x hi hp hx=>?_,by omega,.inl ⟨by omega,xh'.set (Nat.le_refl _),gh3,w',rfl,by rw [htk];exact aW.set (by omega)⟩⟩
   rw [List.getElem?_set_ne (by omega)]
   refine kW i x ?_ hp
   rw [eK,List.getElem?_set_ne (by omega)]
   exact hx
  ·rintro H ⟨hI1,hI2,hI3,u,hI4,hI5⟩
   rw [List.take_length] at hI5
   have ou:=hI5.one
   have hfew:=fnd_few (L:=L) kn.2
   have lu:=hI5.all.len (by omega)
   unfold lsB at hI4
   by_cases c1:fnd L=[]
   ·have re:fndE L=([],7):=by unfold fndE;rw [if_neg (by simp [c0]),if_pos c1]
    rw [re]
    have t1:(((fnd L).length:Int)=0)=True:=eq_true (by rw [c1];rfl)
    have hsp:=@Nat.succ_ne_zero;repeat' (first|simp (disch:=first|exact dq|fail) only [go_sem,↓reduceIte,hsp,hI4,lu,t1]|refine WP_drw ?_|refine cnd_intro (fun hsp=>?_) fun hsp=>?_)
    exact ⟨(x0.trans x1).trans hI2,_,_,rfl,⟨rfl,rfl,rfl⟩,⟨[],Own.nil,rfl,fun i x t q=>by simp at q⟩,fun q=>q.elim⟩
   ·have hpos:0<(fnd L).length:=by cases q:fnd L with|nil=>exact absurd q c1|cons a b=>simp
    have re:fndE L=(fnd L,0):=by unfold fndE;rw [if_neg (by simp [c0]),if_neg c1]
    rw [re]
    have t1:(((fnd L).length:Int)=0)=False:=eq_false (by omega)
    have hsp:=@Nat.succ_ne_zero;repeat' (first|simp (disch:=first|exact dq|fail) only [go_sem,↓reduceIte,hsp,hI4,lu,t1]|refine WP_drw ?_|refine cnd_intro (fun hsp=>?_) fun hsp=>?_)
    exact ⟨(x0.trans x1).trans hI2,_,_,rfl,⟨rfl,rfl,rfl⟩,hI5.low (by omega),fun _=>⟨id,rfl,hD.ext hI2⟩⟩
  ·intro e H _ q;exact q.elim
 ·have t0:(chkL L=0)=False:=eq_false c0
  have r:=r1 c0
  subst r
  have re:fndE L=([],chkL L):=by unfold fndE;rw [if_pos c0]
  rw [re]
  refine ret_raw func43 rfl (by kernel_rfl) ?_
  have hsp:=@Nat.succ_ne_zero;repeat' (first|simp (disch:=first|exact dq|fail) only [go_sem,↓reduceIte,hsp,← eG0,g0,e1,t0]|refine WP_drw ?_|refine cnd_intro (fun hsp=>?_) fun hsp=>?_)
  exact ⟨x0.trans x1,_,_,rfl,⟨rfl,rfl,rfl⟩,⟨[],Own.nil,rfl,fun i x t q=>by simp at q⟩,fun q=>q.elim⟩
end Go.AM
namespace Go.AM
theorem countP_split {α:Type} {s t:α→Bool}:∀ {l:List α},l.countP (fun x=>s x || t x)=l.countP s+l.countP fun x=>!s x && t x
 | []=>rfl
 | x :: l=>by
  have ih:=countP_split (s:=s) (t:=t) (l:=l)
  simp only [List.countP_cons]
  rw [ih]
  cases s x<;>cases t x<;>simp<;>omega
theorem any_or' {α:Type} {s t:α→Bool}:∀ {l:List α},l.any (fun x=>s x || t x)=(l.any s || l.any t)
 | []=>rfl
 | x :: l=>by
  rw [List.any_cons,List.any_cons,List.any_cons,any_or' (l:=l)]
  cases s x<;>cases t x<;>cases l.any s<;>cases l.any t<;>rfl
theorem countP_ne {β:Type} [DecidableEq β] {s:β→Bool} {k:β}:∀ {l:List β},l.Nodup→l.countP s≤(l.filter fun x=>decide (x ≠ k)).countP s+1
 | [],_=>by simp
 | x :: l,h=>by
  rw [List.nodup_cons] at h
  by_cases e:x=k
  ·subst e
   have e2:l.filter (fun y=>decide (y ≠ x))=l:=List.filter_eq_self.2 fun y hy=>decide_eq_true fun q=>h.1 (q ▸ hy)
   rw [List.filter_cons,if_neg (by simp),e2,List.countP_cons]
   split<;>omega
  ·have ih:=countP_ne (s:=s) (k:=k) h.2
   rw [List.filter_cons,if_pos (by simp [e]),List.countP_cons,List.countP_cons]
   omega
section
variable {α β:Type} [DecidableEq α] [DecidableEq β] [Inhabited β]
def HallC (fit:α→β→Bool) (P:List α) (K:List β):Prop:=∀ s:α→Bool,P.countP s≤K.countP fun k=>P.any fun q=>s q && fit q k
theorem hall_aux (fit:α→β→Bool):∀ (n:Nat) (P:List α) (K:List β),P.length≤n→P.Nodup→K.Nodup→HallC fit P K→∃ m:α→β,(∀ p ∈ P,m p ∈ K∧fit p (m p)=true)∧∀ p ∈ P,∀ q ∈ P,m p=m q→p=q
 | n,[],K,_,_,_,_=>⟨fun _=>default,by simp,by simp⟩
 | 0,p :: P,_,hl,_,_,_=>by simp at hl
 | n+1,p :: P,K,hl,hP,hK,hH=>by
  obtain ⟨hp,hP'⟩:=List.nodup_cons.1 hP
  by_cases hA:∃ s:α→Bool,s p=false∧(∃ q ∈ P,s q=true)∧K.countP (fun k=>(p :: P).any fun q=>s q && fit q k)≤(p :: P).countP s
  ·obtain ⟨s,hs,⟨q0,hq0,hsq⟩,hle⟩:=hA
   have c1:HallC fit ((p :: P).filter s) K:=fun t=>by
    have:=hH fun q=>s q && t q
    rw [List.countP_filter]
    simp only [List.any_filter]
    have e1:(p :: P).countP (fun a=>t a && s a)=(p :: P).countP fun a=>s a && t a:=List.countP_congr fun a _=>by rw [Bool.and_comm]
    rw [e1]
    refine Nat.le_trans this (Nat.le_of_eq (List.countP_congr fun k _=>?_))
    rw [show ((p :: P).any fun q=>(s q && t q) && fit q k)=((p :: P).any fun q=>s q && (t q && fit q k)) from by simp only [Bool.and_assoc]]
   obtain ⟨N,eN⟩:∃ N:β→Bool,N=fun k=>(p :: P).any fun q=>s q && fit q k:=⟨_,rfl⟩
   have c2:HallC fit ((p :: P).filter fun q=>!s q) (K.filter fun k=>!N k):=fun t=>by
    have h0:=hH fun q=>s q || (!s q && t q)
    rw [countP_split] at h0
    have e2:(p :: P).countP (fun x=>!s x && (!s x && t x))=(p :: P).countP fun x=>t x && !s x:=List.countP_congr fun a _=>by cases s a<;>simp
    rw [e2] at h0
    rw [List.countP_filter,List.countP_filter]
    simp only [List.any_filter]
    have e3:(K.countP fun k=>(p :: P).any fun q=>(s q || (!s q && t q)) && fit q k)=K.countP fun k=>N k || ((p :: P).any fun q=>!s q && (t q && fit q k)):=List.countP_congr fun k _=>by
     rw [eN,← Bool.eq_iff_iff]
     simp only []
     rw [← any_or']
     congr 1
     funext q
     cases s q<;>simp
    rw [e3,countP_split] at h0
    rw [← eN] at hle
    have e4:(K.countP fun x=>!N x && ((p :: P).any fun q=>!s q && (t q && fit q x)))=K.countP fun a=>((p :: P).any fun x=>!s x && (t x && fit x a)) && !N a:=List.countP_congr fun a _=>by rw [Bool.and_comm]
    rw [e4] at h0
    omega
   have l0:((p :: P).filter s).length≤n:=by
    rw [List.filter_cons,if_neg (by simp [hs])]
    have:=List.length_filter_le s P
    simp at hl;omega
   have l1:((p :: P).filter fun q=>!s q).length≤n:=by
    rw [List.filter_cons,if_pos (by simp [hs])]
    have:(P.filter fun q=>!s q).length<P.length:=by
     rw [← List.countP_eq_length_filter]
     have h1:=List.length_eq_countP_add_countP (l:=P) s
     have h2:0<P.countP s:=List.countP_pos_iff.2 ⟨q0,hq0,hsq⟩
     have e:P.countP (fun q=>!s q)=P.countP (fun a=>decide ¬ s a=true):=List.countP_congr fun a _=>by cases s a<;>simp
     omega
    simp at hl ⊢;omega
   obtain ⟨m1,a1,b1⟩:=hall_aux fit n _ K l0 (hP.filter _) hK c1
   obtain ⟨m2,a2,b2⟩:=hall_aux fit n _ _ l1 (hP.filter _) (hK.filter _) c2
   refine ⟨fun q=>if s q=true then m1 q else m2 q,fun q hq=>?_,fun q hq r hr e=>?_⟩
   ·by_cases c:s q=true
    ·dsimp only;rw [if_pos c]
     exact a1 q (List.mem_filter.2 ⟨hq,c⟩)
    ·dsimp only;rw [if_neg c]
     have:=a2 q (List.mem_filter.2 ⟨hq,by simp [c]⟩)
     exact ⟨(List.mem_filter.1 this.1).1,this.2⟩
   ·have hN:∀ q ∈ p :: P,s q=true→N (m1 q)=true:=fun q hq c=>by
     rw [eN]
     exact List.any_eq_true.2 ⟨q,hq,by rw [c,(a1 q (List.mem_filter.2 ⟨hq,c⟩)).2];rfl⟩
    have hM:∀ q ∈ p :: P,¬ s q=true→N (m2 q)=false:=fun q hq c=>by
     have:=(List.mem_filter.1 (a2 q (List.mem_filter.2 ⟨hq,by simp [c]⟩)).1).2
     simpa using this
    simp only at e
    by_cases c:s q=true
    ·by_cases d:s r=true
     ·rw [if_pos c,if_pos d] at e
      exact b1 q (List.mem_filter.2 ⟨hq,c⟩) r (List.mem_filter.2 ⟨hr,d⟩) e
     ·rw [if_pos c,if_neg d] at e
      have h1:=hN q hq c
      rw [e,hM r hr d] at h1
      cases h1
    ·by_cases d:s r=true
     ·rw [if_neg c,if_pos d] at e
      have h1:=hN r hr d
      rw [← e,hM q hq c] at h1
      cases h1
     ·rw [if_neg c,if_neg d] at e
      exact b2 q (List.mem_filter.2 ⟨hq,by simp [c]⟩) r (List.mem_filter.2 ⟨hr,by simp [d]⟩) e
  ·-- no list is tight
   have h1:=hH fun q=>decide (q=p)
   have hpos:0<(p :: P).countP fun q=>decide (q=p):=List.countP_pos_iff.2 ⟨p,by simp,by simp⟩
   obtain ⟨k,hkK,hk⟩:=List.countP_pos_iff.1 (Nat.lt_of_lt_of_le hpos h1)
   obtain ⟨q,hq,hqk⟩:=List.any_eq_true.1 hk
   rw [Bool.and_eq_true,decide_eq_true_eq] at hqk
   obtain ⟨rfl,hfk⟩:=hqk
   have c1:HallC fit P (K.filter fun x=>decide (x ≠ k)):=fun t=>by
    by_cases ht:∃ r ∈ P,t r=true
    ·obtain ⟨r,hr,htr⟩:=ht
     have hs:¬ K.countP (fun k=>(q :: P).any fun x=>(t x && decide (x ≠ q)) && fit x k)≤(q :: P).countP fun x=>t x && decide (x ≠ q):=fun hle =>
      hA ⟨fun x=>t x && decide (x ≠ q),by simp,⟨r,hr,by dsimp only;rw [htr];simp;rintro rfl;exact hp hr⟩,hle⟩
     have e1:((q :: P).countP fun x=>t x && decide (x ≠ q))=P.countP t:=by
      rw [List.countP_cons_of_neg (by simp)]
      exact List.countP_congr fun a ha=>by simp;rintro _ rfl;exact hp ha
     have e2:(fun k=>(q :: P).any fun x=>(t x && decide (x ≠ q)) && fit x k)=fun k=>P.any fun x=>t x && fit x k:=by
      funext k
      rw [List.any_cons,show ((t q && decide (q ≠ q)) && fit q k)=false by simp,Bool.false_or]
      refine Bool.eq_iff_iff.2 ⟨fun h=>?_,fun h=>?_⟩
      ·obtain ⟨x,hx,hc⟩:=List.any_eq_true.1 h
       simp only [Bool.and_eq_true] at hc
       exact List.any_eq_true.2 ⟨x,hx,by rw [hc.1.1,hc.2];rfl⟩
      ·obtain ⟨x,hx,hc⟩:=List.any_eq_true.1 h
       simp only [Bool.and_eq_true] at hc
       exact List.any_eq_true.2 ⟨x,hx,by rw [hc.1,hc.2];simp;rintro rfl;exact hp hx⟩
     rw [e1,e2] at hs
     have:=countP_ne (s:=fun k=>P.any fun x=>t x && fit x k) (k:=k) hK
     omega
    ·have:P.countP t=0:=List.countP_eq_zero.2 fun r hr htr=>ht ⟨r,hr,htr⟩
     omega
   obtain ⟨m,a,b⟩:=hall_aux fit n P _ (by simpa using hl) hP' (hK.filter _) c1
   refine ⟨fun x=>if x=q then k else m x,fun x hx=>?_,fun x hx y hy e=>?_⟩
   ·by_cases c:x=q
    ·dsimp only;rw [if_pos c,c];exact ⟨hkK,hfk⟩
    ·dsimp only;rw [if_neg c]
     have:=a x ((List.mem_cons.1 hx).resolve_left c)
     exact ⟨(List.mem_filter.1 this.1).1,this.2⟩
   ·simp only at e
    have hm:∀ x ∈ q :: P,x ≠ q→m x ≠ k:=fun x hx c=>of_decide_eq_true (List.mem_filter.1 (a x ((List.mem_cons.1 hx).resolve_left c)).1).2
    by_cases c:x=q
    ·by_cases d:y=q
     ·rw [c,d]
     ·rw [if_pos c,if_neg d] at e
      exact absurd e.symm (hm y hy d)
    ·by_cases d:y=q
     ·rw [if_neg c,if_pos d] at e
      exact absurd e (hm x hx c)
     ·rw [if_neg c,if_neg d] at e
      exact b x ((List.mem_cons.1 hx).resolve_left c) y ((List.mem_cons.1 hy).resolve_left d) e
end
theorem hall {n:Nat} {fit:Nat→Nat→Bool} (h:∀ s:List Int,s.Sublist (upto n)→s.length≤((upto n).filter fun k=>s.any fun p=>fit p.toNat k.toNat).length):∃ o:List Int,o.length=n∧(∀ x ∈ o,0≤x∧x<(n:Int))∧o.Nodup∧∀ i,i<n→fit i (o.getD i 0).toNat=true:=by
 have hn:(upto n).Nodup:=(upto_sorted n).imp fun h=>by omega
 obtain ⟨m,h1,h2⟩:=hall_aux (fun p k:Int=>fit p.toNat k.toNat) n (upto n) (upto n) (by rw [upto_len];exact Nat.le_refl _) hn hn (fun s=>by
  have:=h _ (List.filter_sublist (p:=s) (l:=upto n))
  rw [← List.countP_eq_length_filter,← List.countP_eq_length_filter] at this
  simp only [List.any_filter] at this
  exact this)
 have hlen:((upto n).map m).length=n:=by rw [List.length_map,upto_len]
 refine ⟨(upto n).map m,hlen,fun x hx=>?_,?_,fun i hi=>?_⟩
 ·obtain ⟨p,hp,rfl⟩:=List.mem_map.1 hx
  exact upto_mem.1 (h1 p hp).1
 ·show ((upto n).map m).Pairwise _
  rw [List.pairwise_map]
  exact hn.imp_of_mem fun {a b} ha hb hab e=>hab (h2 a ha b hb e)
 ·have e:((upto n).map m).getD i 0=m (i:Int):=by
   rw [List.getD_eq_getElem?_getD,List.getElem?_map,show (upto n)[i]?=some (i:Int) by unfold upto lst;rw [List.getElem?_map,List.getElem?_range hi];rfl]
   rfl
  rw [e]
  have:=(h1 (i:Int) (upto_mem.2 (by omega))).2
  simpa using this
end Go.AM
namespace Go.AM
def topV (o pile:List Int):Int:=o.getD (pile.getLastD 0).toNat 0
def pilI (o:List Int) (ps:List (List Int)) (k:Int):Int:=idx (fun pile=>decide (topV o pile > k)) ps
def pilS (o:List Int) (ps:List (List Int)) (p:Nat):List (List Int) :=
 if pilI o ps (o.getD p 0)<0 then ps++[[(p:Int)]] else ps.set (pilI o ps (o.getD p 0)).toNat (ps.getD (pilI o ps (o.getD p 0)).toNat []++[(p:Int)])
def pilN (o:List Int):Nat→List (List Int)
 | 0=>[]
 | n+1=>pilS o (pilN o n) n
theorem idx_at {α:Type} {p:α→Bool}:∀ {l:List α},0≤idx p l→∃ i:Nat,idx p l=(i:Int)∧(∃ h:i<l.length,p l[i]=true)∧∀ j,(h:j<l.length)→j<i→p l[j]=false
 | [],h=>by simp [idx] at h
 | x :: l,h=>by
  unfold idx at h ⊢
  by_cases c:p x=true
  ·rw [if_pos c]
   exact ⟨0,rfl,⟨by simp,c⟩,fun j _ hj=>by omega⟩
  ·rw [if_neg c] at h ⊢
   have h0:0≤idx p l:=by
    by_cases q:idx p l<0
    ·rw [if_pos q] at h;omega
    ·omega
   obtain ⟨i,e,⟨hi,hp⟩,hn⟩:=idx_at h0
   rw [if_neg (by omega),e]
   refine ⟨i+1,by omega,⟨by simpa using hi,hp⟩,fun j hj hji=>?_⟩
   cases j with
   | zero=>simpa using c
   | succ j=>exact hn j (by simpa using hj) (by omega)
theorem idx_none {α:Type} {p:α→Bool}:∀ {l:List α},idx p l<0→∀ j,(h:j<l.length)→p l[j]=false
 | [],_,j,h=>by simp at h
 | x :: l,h,j,hj=>by
  unfold idx at h
  by_cases c:p x=true
  ·rw [if_pos c] at h;omega
  ·rw [if_neg c] at h
   have h0:idx p l<0:=by
    by_cases q:idx p l<0
    ·exact q
    ·rw [if_neg q] at h;omega
   cases j with
   | zero=>simpa using c
   | succ j=>exact idx_none h0 j (by simpa using hj)
def PilR (o:List Int) (p q:Int):Prop:=p<q∧o.getD q.toNat 0<o.getD p.toNat 0
structure Pils (o:List Int) (n:Nat) (ps:List (List Int)):Prop where
 ne:∀ x ∈ ps,x ≠ []
 dn:∀ x ∈ ps,x.Pairwise (PilR o)
 all:ps.flatten.Perm (upto n)
 hd:∀ i j,i<j→j<ps.length→(ps.getD i []).headD 0<(ps.getD j []).headD 0
 ch:∀ i,i<ps.length→∀ p ∈ ps.getD i [],∃ l,RiseP o l∧l.length=i+1∧l.getLast?=some p
theorem rise_snoc {o l:List Int} {a p:Int} (h:RiseP o l) (hl:l.getLast?=some a) (hr:rsR o a p) (hp:0≤p∧p<(o.length:Int)):RiseP o (l++[p]):=by
 refine ⟨List.pairwise_append.2 ⟨h.1,List.pairwise_singleton _ _,fun x hx y hy=>?_⟩,fun x hx=>?_⟩
 ·rw [List.mem_singleton] at hy
  subst hy
  obtain ⟨m,rfl⟩:∃ m,l=m++[a]:=List.getLast?_eq_some_iff.1 hl
  rcases List.mem_append.1 hx with q|q
  ·have:=(List.pairwise_append.1 h.1).2.2 x q a (by simp)
   exact ⟨Int.lt_trans this.1 hr.1,Int.lt_trans this.2 hr.2⟩
  ·rw [List.mem_singleton] at q
   rw [q];exact hr
 ·rcases List.mem_append.1 hx with q|q
  ·exact h.2 x q
  ·rw [List.mem_singleton] at q
   rw [q];exact hp
theorem getLastD_mem {l:List Int} (h:l ≠ []):l.getLastD 0 ∈ l∧l.getLast?=some (l.getLastD 0):=by
 rw [List.getLastD_eq_getLast?,List.getLast?_eq_some_getLast h]
 exact ⟨List.getLast_mem h,rfl⟩
theorem flatten_set {ps:List (List Int)} {i:Nat} {p:Int} (hi:i<ps.length):(ps.set i (ps.getD i []++[p])).flatten.Perm (ps.flatten++[p]):=by
 have e1:ps=ps.take i++ps.getD i [] :: ps.drop (i+1):=by
  conv=>lhs;rw [← List.take_append_drop i ps]
  rw [List.drop_eq_getElem_cons hi,List.getD_eq_getElem?_getD,List.getElem?_eq_getElem hi];rfl
 have hl:(ps.take i).length=i:=by rw [List.length_take];omega
 have e2:∀ y,ps.set i y=ps.take i++y :: ps.drop (i+1):=fun y=>by
  generalize ps.getD i []=x at e1
  conv=>lhs;rw [e1]
  rw [List.set_append_right _ _ (by omega),hl,Nat.sub_self]
  rfl
 rw [e2]
 conv=>rhs;rw [e1]
 simp only [List.flatten_append,List.flatten_cons,List.append_assoc]
 refine List.Perm.append_left _ (List.Perm.append_left _ List.perm_append_comm)
theorem pilN_ok {o:List Int} (hd:∀ i j,i<j→j<o.length→o.getD i 0 ≠ o.getD j 0):∀ {n},n≤o.length→Pils o n (pilN o n)
 | 0,_=>⟨by simp [pilN],by simp [pilN],.refl _,fun i j _ hj=>by simp [pilN] at hj,fun i hi=>by simp [pilN] at hi⟩
 | n+1,hn=>by
  have ih:=pilN_ok hd (n:=n) (by omega)
  have mem:∀ x ∈ pilN o n,∀ q ∈ x,0≤q∧q<(n:Int):=fun x hx q hq=>upto_mem.1 (ih.all.mem_iff.1 (List.mem_flatten.2 ⟨x,hx,hq⟩))
  rw [pilN,pilS]
  -- the pile ahead of the one that takes the card
  have back:∀ i,i<(pilN o n).length→topV o ((pilN o n).getD i [])≤o.getD n 0→∃ l,RiseP o l∧l.length=i+2∧l.getLast?=some (n:Int):=fun i hi ht=>by
   have hm:(pilN o n).getD i [] ∈ pilN o n:=getD_mem' hi
   obtain ⟨h1,h2⟩:=getLastD_mem (ih.ne _ hm)
   obtain ⟨l,g1,g2,g3⟩:=ih.ch i hi _ h1
   have hr:=mem _ hm _ h1
   unfold topV at ht
   have hne:=hd (((pilN o n).getD i []).getLastD 0).toNat n (by omega) (by omega)
   refine ⟨l++[(n:Int)],rise_snoc g1 g3 ⟨hr.2,by rw [Int.toNat_natCast];omega⟩ (by omega),by simp [g2],by simp⟩
  split
  ·rename_i c
   have hno:=idx_none c
   refine ⟨fun x hx=>?_,fun x hx=>?_,?_,fun i j hij hj=>?_,fun i hi p hp=>?_⟩
   ·rcases List.mem_append.1 hx with q|q
    ·exact ih.ne x q
    ·rw [List.mem_singleton] at q;rw [q];simp
   ·rcases List.mem_append.1 hx with q|q
    ·exact ih.dn x q
    ·rw [List.mem_singleton] at q;rw [q];exact List.pairwise_singleton _ _
   ·rw [List.flatten_append,upto_succ]
    exact ih.all.append_right _
   ·rw [List.length_append,List.length_cons,List.length_nil] at hj
    rw [List.getD_eq_getElem?_getD (l:=pilN o n++_),List.getElem?_append_left (by omega),← List.getD_eq_getElem?_getD]
    by_cases e:j<(pilN o n).length
    ·rw [List.getD_eq_getElem?_getD (l:=pilN o n++_),List.getElem?_append_left e,← List.getD_eq_getElem?_getD]
     exact ih.hd i j hij e
    ·have ej:j=(pilN o n).length:=by omega
     subst ej
     rw [List.getD_eq_getElem?_getD (l:=pilN o n++_),List.getElem?_append_right (Nat.le_refl _),Nat.sub_self]
     have hm:(pilN o n).getD i [] ∈ pilN o n:=getD_mem' hij
     have hne:=ih.ne _ hm
     show ((pilN o n).getD i []).headD 0<(n:Int)
     match hx:(pilN o n).getD i [],hne with
     | y :: ys,_ =>
      rw [hx] at hm
      exact (mem _ hm y (by simp)).2
   ·rw [List.length_append,List.length_cons,List.length_nil] at hi
    by_cases e:i<(pilN o n).length
    ·rw [List.getD_eq_getElem?_getD,List.getElem?_append_left e,← List.getD_eq_getElem?_getD] at hp
     exact ih.ch i e p hp
    ·have ei:i=(pilN o n).length:=by omega
     subst ei
     rw [List.getD_eq_getElem?_getD,List.getElem?_append_right (Nat.le_refl _),Nat.sub_self] at hp
     have hp:p=(n:Int):=by simpa using hp
     subst hp
     by_cases e0:(pilN o n).length=0
     ·refine ⟨[(n:Int)],⟨List.pairwise_singleton _ _,fun x hx=>?_⟩,by simp [e0],rfl⟩
      rw [List.mem_singleton] at hx;omega
     ·have h0:=hno ((pilN o n).length-1) (by omega)
      have:=of_decide_eq_false h0
      obtain ⟨l,g1,g2,g3⟩:=back ((pilN o n).length-1) (by omega) (by rw [getD_at (by omega)];omega)
      exact ⟨l,g1,by omega,g3⟩
  ·rename_i c
   obtain ⟨i0,ei,⟨hi0,hp0⟩,hno⟩:=idx_at (p:=fun pile=>decide (topV o pile > o.getD n 0)) (l:=pilN o n) (by unfold pilI at c;omega)
   have ei':(pilI o (pilN o n) (o.getD n 0)).toNat=i0:=by unfold pilI;omega
   rw [ei']
   have hm:(pilN o n).getD i0 [] ∈ pilN o n:=getD_mem' hi0
   have ht:=of_decide_eq_true hp0
   rw [← getD_at (d:=[]) hi0] at ht
   refine ⟨fun x hx=>?_,fun x hx=>?_,?_,fun i j hij hj=>?_,fun i hi p hp=>?_⟩
   ·rcases List.mem_or_eq_of_mem_set hx with q|q
    ·exact ih.ne x q
    ·rw [q];simp
   ·rcases List.mem_or_eq_of_mem_set hx with q|q
    ·exact ih.dn x q
    ·rw [q]
     refine List.pairwise_append.2 ⟨ih.dn _ hm,List.pairwise_singleton _ _,fun a ha b hb=>?_⟩
     rw [List.mem_singleton] at hb
     subst hb
     obtain ⟨h1,h2⟩:=getLastD_mem (ih.ne _ hm)
     unfold topV at ht
     refine ⟨(mem _ hm a ha).2,?_⟩
     rw [Int.toNat_natCast]
     -- the last card of a pile is its least one
     have hlast:a=((pilN o n).getD i0 []).getLastD 0 ∨ PilR o a (((pilN o n).getD i0 []).getLastD 0):=by
      obtain ⟨m,em⟩:∃ m,(pilN o n).getD i0 []=m++[((pilN o n).getD i0 []).getLastD 0]:=by
       obtain ⟨ys,h⟩:=List.getLast?_eq_some_iff.1 h2
       exact ⟨ys,h⟩
      have hd':=ih.dn _ hm
      rw [em] at ha hd'
      rcases List.mem_append.1 ha with q|q
      ·exact .inr ((List.pairwise_append.1 hd').2.2 a q _ (by simp))
      ·exact .inl (by simpa using q)
     rcases hlast with e|e
     ·rw [e];exact ht
     ·exact Int.lt_trans ht e.2
   ·rw [upto_succ]
    exact (flatten_set hi0).trans (ih.all.append_right _)
   ·rw [List.length_set] at hj
    have hhd:∀ k,k<(pilN o n).length→(((pilN o n).set i0 ((pilN o n).getD i0 []++[(n:Int)])).getD k []).headD 0=((pilN o n).getD k []).headD 0:=fun k hk=>by
     by_cases e:i0=k
     ·subst e
      rw [List.getD_eq_getElem?_getD,List.getElem?_set_self hi0]
      show ((pilN o n).getD i0 []++[(n:Int)]).headD 0=_
      match hx:(pilN o n).getD i0 [],ih.ne _ hm with
      | y :: ys,_=>rfl
     ·rw [List.getD_eq_getElem?_getD,List.getElem?_set_ne e,← List.getD_eq_getElem?_getD]
    rw [hhd i (by omega),hhd j hj]
    exact ih.hd i j hij hj
   ·rw [List.length_set] at hi
    by_cases e:i0=i
    ·subst e
     rw [List.getD_eq_getElem?_getD,List.getElem?_set_self hi0] at hp
     rcases List.mem_append.1 (show p ∈ (pilN o n).getD i0 []++[(n:Int)] from hp) with q|q
     ·exact ih.ch i0 hi p q
     ·rw [List.mem_singleton] at q
      subst q
      by_cases e0:i0=0
      ·refine ⟨[(n:Int)],⟨List.pairwise_singleton _ _,fun x hx=>?_⟩,by simp [e0],rfl⟩
       rw [List.mem_singleton] at hx;omega
      ·have h0:=of_decide_eq_false (hno (i0-1) (by omega) (by omega))
       obtain ⟨l,g1,g2,g3⟩:=back (i0-1) (by omega) (by rw [getD_at (by omega)];omega)
       exact ⟨l,g1,by omega,g3⟩
    ·rw [List.getD_eq_getElem?_getD,List.getElem?_set_ne e,← List.getD_eq_getElem?_getD] at hp
     exact ih.ch i hi p hp
theorem piles_rise {o x:List Int} {ps:List (List Int)} (hp:Pils o o.length ps) (hx:IsRise o x):ps.length=x.length:=by
 refine Nat.le_antisymm ?_ ?_
 ·by_cases h0:ps.length=0
  ·omega
  ·have hm:ps.getD (ps.length-1) [] ∈ ps:=getD_mem' (by omega)
   obtain ⟨h1,_⟩:=getLastD_mem (hp.ne _ hm)
   obtain ⟨l,g1,g2,_⟩:=hp.ch (ps.length-1) (by omega) _ h1
   rcases hx.2 l g1 with q|⟨q,_⟩<;>omega
 ·have hn:x.Nodup:=hx.1.1.imp fun h=>by have:=h.1;omega
  refine pigeon (R:=fun (a:Int) (b:List Int)=>a ∈ b) hn (fun a ha=>?_) (fun a ha c hc b hb h1 h2=>?_)
  ·have:=hp.all.mem_iff.2 (upto_mem.2 (hx.1.2 a ha))
   obtain ⟨b,hb,hab⟩:=List.mem_flatten.1 this
   exact ⟨b,hb,hab⟩
  ·-- two positions of a pile do not rise
   refine Classical.byContradiction fun hne=>?_
   have cmp:∀ {l:List Int} {R:Int→Int→Prop},l.Pairwise R→∀ {a c},a ∈ l→c ∈ l→a ≠ c→R a c ∨ R c a:=fun {l R} hl {a c} ha hc hne=>by
    obtain ⟨i,hi,rfl⟩:=List.getElem_of_mem ha
    obtain ⟨j,hj,rfl⟩:=List.getElem_of_mem hc
    rcases Nat.lt_trichotomy i j with q|q|q
    ·exact .inl (List.pairwise_iff_getElem.1 hl i j hi hj q)
    ·subst q;exact absurd rfl hne
    ·exact .inr (List.pairwise_iff_getElem.1 hl j i hj hi q)
   rcases cmp hx.1.1 ha hc hne with q|q<;>rcases cmp (hp.dn b hb) h1 h2 hne with r|r<;>unfold rsR at q<;>unfold PilR at r<;>omega
end Go.AM
