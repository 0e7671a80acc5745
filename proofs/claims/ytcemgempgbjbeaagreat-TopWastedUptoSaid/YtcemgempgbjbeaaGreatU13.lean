/-
  Contracts: a ribbon at work (worked, opened).
-/
import Derived.Test.YtcemgempgbjbeaaGreatU12
import Derived.Test.YtcemgempgbjbeaaGreatU9
import Derived.Test.YtcemgempgbjbeaaGreatU10
set_option linter.unusedSimpArgs false
set_option linter.unusedVariables false
namespace Go.AM
open Go.Proofs.Tryz
attribute [-go_sem] put_ne put_same
attribute [local go_sem ↓] put_if
theorem blB_nil:blB []=List.replicate 60 (.bool false):=by
 refine List.ext_getElem? fun i=>?_
 by_cases hi:i<60
 ·rw [blB_at hi,List.getElem?_replicate,if_pos hi];simp
 ·rw [List.getElem?_eq_none (by rw [blB_len];omega),List.getElem?_eq_none (by simp;omega)]
theorem bdD {L:Int} {fv wv:AVal}:buildA prog 257 [(0,.agg [.int .i64 L,fv,wv])]=some (.agg (.int .i64 L :: fv :: wv :: blB [])):=by
 have e:=Fc.bd257_0 (y0_0:=.int .i64 L) (y0_1:=fv) (y0_2:=wv)
 rw [e,blB_nil];rfl
theorem run_worked {base:Nat} {h:Heap} {v:AVal} {R:Rib} (hb:base≤h.length) (hA:RibAt h v R) (hR:RibOk R) :
  Ret prog raw base (.fn 130 [] []) [v] h (fun w H=>Ext h H∧∃ id,w=.ptr (some ⟨id,0,0⟩)∧h.length≤id∧DskAt H id R):=by
 obtain ⟨fv,wv,rfl,hF,hW⟩:=hA
 have o1:=hF.one
 have o2:=hW.one
 obtain ⟨G0,eG0⟩:∃ G0,G0=h++[ribB R.L fv wv]:=⟨_,rfl⟩
 have x0:Ext h G0:=by rw [eG0];exact .app .refl
 have g0:G0[h.length]?=some (ribB R.L fv wv):=by rw [eG0];exact get_eq rfl
 have l0:G0.length=h.length+1:=by rw [eG0];simp
 have eG1:∀ F,G0++[(⟨.cells (.int .i64 R.L :: fv :: wv :: blB F) 257 false false,0⟩:ABlk)]=G0++[dskB R.L fv wv F]:=fun _=>rfl
 have bd:=bdD (L:=R.L) (fv:=fv) (wv:=wv)
 have hn1:∀ F,lenOpA prog (G0++[dskB R.L fv wv F]) 35 fv=some (.int .i64 (R.F.length:Int)):=fun F=>lenI (hF.ext (x0.trans (.app .refl)))
 have hL:=hR.L
 have hnF:=hR.nF
 unfold ribB at eG0 g0
 refine ret_raw func130 rfl (by kernel_rfl) ?_
 have hsp:=@Nat.succ_ne_zero;repeat' (first|simp (disch:=first|exact dqb|fail) only [go_sem,↓reduceIte,hsp,← eG0,g0,bd,eG1,hn1]|refine WP_drw ?_|refine cnd_intro (fun hsp=>?_) fun hsp=>?_)
 refine WP_count [(5,5),(12,21)] 0 R.F.length (Nat.zero_le _) (fun _ i fr H=>fr 12=.int .i64 (i:Int)∧H=G0++[dskB R.L fv wv (R.F.take i)]) ?_ ?_ ?_
 ·exact ⟨by (simp (disch:=first|exact dqb|fail) only [go_sem,↓reduceIte,Int.natCast_zero];first|done|rfl),by simp⟩
 ·rintro i fr H hi0 hi hA ⟨r12,rfl⟩
  have p2:=hA 2 rfl
  have p3:=hA 3 rfl
  have p10:=hA 10 rfl
  have p11:=hA 11 rfl
  try simp (disch:=first|exact dqb|fail) only [go_sem,↓reduceIte] at p2 p3 p10 p11
  have hlt:((i:Int)<(R.F.length:Int))=True:=eq_true (by omega)
  have iF:=hF.ext (x0.trans (.app (t:=[dskB R.L fv wv (R.F.take i)]) .refl))
  have hl0:=loadI iF hi
  have ha0:=adrI (i:=(i:Int)) (by omega) iF (by omega)
  rw [Int.toNat_natCast] at ha0
  have hu:=hR.F _ (getD_mem' (d:=0) hi)
  obtain ⟨u,eu⟩:=Int.eq_ofNat_of_zero_le hu.1
  rw [eu] at hl0 hu
  have hu60:u<60:=by omega
  have e3:3+(u:Int).toNat * 1=3+u:=by omega
  have g1:(G0++[dskB R.L fv wv (R.F.take i)])[G0.length]?=some (dskB R.L fv wv (R.F.take i)):=get_eq rfl
  have st:∀ {F:ABlk→Heap},stQ base G0.length (some (dskB R.L fv wv (R.F.take i))) 0 (3+u) [.bool true] F=some (F (dskB R.L fv wv (R.F.take i++[(u:Int)]))):=fun {F}=>dsk_st (by omega) hu60
  have hsp:=@Nat.succ_ne_zero;repeat' (first|simp (disch:=first|exact dqb|fail) only [go_sem,↓reduceIte,hsp,r12,p2,p3,p10,p11,hlt,ha0,hl0,e3,g1,st]|refine WP_drw ?_|refine cnd_intro (fun hsp=>?_) fun hsp=>?_)
  refine ⟨agq,by omega,?_⟩
  rw [List.take_add_one,getD_some (d:=0) hi,eu];rfl
 ·rintro fr H hA ⟨r12,rfl⟩
  have p2:=hA 2 rfl
  have p3:=hA 3 rfl
  have p10:=hA 10 rfl
  have p11:=hA 11 rfl
  try simp (disch:=first|exact dqb|fail) only [go_sem,↓reduceIte] at p2 p3 p10 p11
  have hlt:((R.F.length:Int)<(R.F.length:Int))=False:=eq_false (by omega)
  rw [List.take_length]
  have hsp:=@Nat.succ_ne_zero;repeat' (first|simp (disch:=first|exact dqb|fail) only [go_sem,↓reduceIte,hsp,r12,p2,p3,p10,p11,hlt]|refine WP_drw ?_|refine cnd_intro (fun hsp=>?_) fun hsp=>?_)
  have x1:Ext h (G0++[dskB R.L fv wv R.F]):=x0.trans (.app .refl)
  exact ⟨x1,_,rfl,by omega,fv,wv,get_eq rfl,hF.ext x1,hW.ext x1⟩
theorem run_opened {base:Nat} {h:Heap} {v:AVal} {R:Rib} (hb:base≤h.length) (hA:RibAt h v R) (hsm:R.F.length≤1048576) :
  Ret prog raw base (.fn 47 [] []) [v] h (fun w H=>Ext h H∧(chkR R ≠ 0→w=.tuple [.ptr none,.int .i64 (chkR R)])∧(chkR R=0→∃ id,w=.tuple [.ptr (some ⟨id,0,0⟩),.int .i64 0]∧h.length≤id∧DskAt H id R)):=by
 have hAe:=fun H (e:Ext h H)=>hA.ext e
 obtain ⟨fv,wv,rfl,hF,hW⟩:=hA
 have o1:=hF.one
 have o2:=hW.one
 obtain ⟨G0,eG0⟩:∃ G0,G0=h++[ribB R.L fv wv]:=⟨_,rfl⟩
 have x0:Ext h G0:=by rw [eG0];exact .app .refl
 have g0:G0[h.length]?=some (ribB R.L fv wv):=by rw [eG0];exact get_eq rfl
 have l0:G0.length=h.length+1:=by rw [eG0];simp
 have hA0:=hAe G0 x0
 have hck0:=fun base=>run_Check (base:=base) hA0 hsm
 unfold ribB at eG0 g0
 by_cases c0:chkR R=0
 ·rw [c0] at hck0
  obtain ⟨w1,H1,e1,x1,id,rfl,hid,hD⟩:=run_worked (base:=base) (by omega) hA0 (chkR_iff.1 c0)
  refine ret_raw func47 rfl (by kernel_rfl) ?_
  have hsp:=@Nat.succ_ne_zero;repeat' (first|simp (disch:=first|exact dqb|fail) only [go_sem,↓reduceIte,hsp,← eG0,g0,hck0,e1]|refine WP_drw ?_|refine cnd_intro (fun hsp=>?_) fun hsp=>?_)
  exact ⟨x0.trans x1,fun q=>absurd c0 q,fun _=>⟨id,rfl,by omega,hD⟩⟩
 ·have t0:(chkR R=0)=False:=eq_false c0
  refine ret_raw func47 rfl (by kernel_rfl) ?_
  have hsp:=@Nat.succ_ne_zero;repeat' (first|simp (disch:=first|exact dqb|fail) only [go_sem,↓reduceIte,hsp,← eG0,g0,hck0,t0]|refine WP_drw ?_|refine cnd_intro (fun hsp=>?_) fun hsp=>?_)
  refine ⟨x0,?_,?_⟩<;>first|trivial|exact fun _=>rfl|exact fun q=>q.elim|exact fun q=>absurd q c0
end Go.AM
namespace Go.AM
section
variable {α β:Type} {E:Enc α} {E2:Enc β} {P:Program} {base b b2 k:Nat} {h H:Heap} {v w x:AVal} {l m:List α} {l2:List β} {t e e2:TypeId} {zs:List AVal}
def snV (h:Heap) (v:AVal) (k:Nat):AVal:=match v with
 | .slice (some r) n _=>.slice (some ⟨r.id,r.ver+1,0⟩) (n+k) (n+k)
 | _=>.slice (some ⟨h.length,0,0⟩) k k
def snH (E:Enc α) (e:TypeId) (h:Heap) (v:AVal) (l m:List α):Heap:=match v with
 | .slice (some r) _ _=>h.set r.id (rowE E e (l++m) (r.ver+1))
 | _=>h++[rowE E e m 0]
def Asun (v w:AVal):Prop:=∀ r n c s k d,v=.slice (some r) n c→w=.slice (some s) k d→r.id ≠ s.id
theorem Asun.symm (x:Asun v w):Asun w v:=fun r n c s k d a b q=>x s k d r n c b a q.symm
theorem Asun.nil:Asun v (.slice none 0 0):=fun _ _ _ _ _ _ _ q=>by cases q
theorem snV_one:One (snV h v k):=by unfold snV;split<;>exact ⟨rfl,rfl,rfl⟩
theorem snH_len:h.length≤(snH E e h v l m).length:=by unfold snH;split<;>simp
theorem app_sn (hO:Own E e b h v l) (ht:elS P t=some (e,E.z,zs)) (hs:∀ y,(E.cells y).all AVal.scalar=true) (hb:base≤b) (hm:0<m.length) (hsz:l.length+m.length<2147483648)
  (hx1:lenA E.z x=some m.length) (hx2:firstN h E.z m.length x=some (flat E m)):appendA P base h t v x=some (snV h v m.length,snH E e h v l m):=by
 rcases hO with ⟨rfl,rfl⟩|⟨id,ver,rfl,h1,h2,h3⟩
 ·simp only [appendA,ht,hx1,hx2,flat_scalar hs,if_true]
  rw [if_neg (by omega),if_pos (show m.length<2 ^ 31 by simp at hsz;omega)]
  rfl
 ·simp only [appendA,ht,hx1,hx2,flat_scalar hs,if_true]
  rw [if_neg (by omega),h1]
  simp only [rowE,flat_len]
  rw [if_pos ⟨trivial,trivial,trivial,trivial,show l.length+m.length<2 ^ 31 from hsz,h3,.inl (by omega)⟩]
  rw [List.take_of_length_le (by rw [flat_len];exact Nat.le_refl _),← flat_app]
  rfl
theorem app_sn1 {y:α} {a:AVal} (hO:Own E e b h v l) (hz:E.z=1) (hy:E.cells y=[a]) (ht:elS P t=some (e,1,zs)) (hs:∀ y,(E.cells y).all AVal.scalar=true) (hb:base≤b) (hsz:l.length+1<2147483648) :
  appendA P base h t v (.vals [a])=some (snV h v 1,snH E e h v l [y]):=by
 refine app_sn (m:=[y]) hO (by rw [hz];exact ht) hs hb (by simp) (by simpa using hsz) ?_ ?_
 ·rw [hz];rfl
 ·rw [hz];simp [firstN,flat,hy]
theorem Own.sn (hO:Own E e b h v l) (hbh:b≤h.length) (hm:0<m.length):Own E e b (snH E e h v l m) (snV h v m.length) (l++m):=by
 rcases hO with ⟨rfl,rfl⟩|⟨id,ver,rfl,h1,h2,h3⟩
 ·exact .inr ⟨h.length,0,by simp [snV],get_eq rfl,hbh,by simpa using hm⟩
 ·exact .inr ⟨id,ver+1,by simp [snV],by unfold snH;simp only;rw [List.getElem?_set_self (lt_of_get h1)],h2,by simp;omega⟩
theorem Own.sn_ext (hO:Own E e b h v l) (hG:H.length≤b) (g:Ext H h):Ext H (snH E e h v l m):=by
 rcases hO with ⟨rfl,rfl⟩|⟨id,ver,rfl,h1,h2,h3⟩
 ·exact .app g
 ·exact g.set (show H.length≤id by omega)
theorem Own.sn_oth (hO:Own E2 e2 b2 h w l2) (hA:Asun v w):Own E2 e2 b2 (snH E e h v l m) w l2:=by
 unfold snH
 split
 ·rename_i r n c
  rcases hO with ⟨rfl,rfl⟩|⟨id,ver,rfl,h1,h2,h3⟩
  ·exact .nil
  ·exact .inr ⟨id,ver,rfl,by rw [List.getElem?_set_ne (hA _ _ _ _ _ _ rfl rfl)];exact h1,h2,h3⟩
 ·exact hO.app
theorem Own.sn_asun (hO:Own E2 e2 b2 h w l2) (hA:Asun v w):Asun (snV h v k) w:=by
 intro r n c s i d q1 q2
 unfold snV at q1
 split at q1
 ·rename_i r' n' c'
  simp only [AVal.slice.injEq,Option.some.injEq] at q1
  obtain ⟨q1,_,_⟩:=q1
  rw [← q1]
  exact hA r' n' c' _ _ _ rfl q2
 ·simp only [AVal.slice.injEq,Option.some.injEq] at q1
  obtain ⟨rfl,_,_⟩:=q1
  rcases hO with ⟨rfl,rfl⟩|⟨id,ver,rfl,h1,h2,h3⟩
  ·cases q2
  ·simp only [AVal.slice.injEq,Option.some.injEq] at q2
   obtain ⟨rfl,_,_⟩:=q2
   have:=lt_of_get h1
   show h.length ≠ id
   omega
end
theorem WP_cmeet {P:Program} {raw:FuncId→Bool} {base:Nat} {c:Code} {id:Nat} {FR:AFrame} {H:Heap} {Q:AExit→St→Prop} (mod:List (Nat × Nat)) (a N:Nat) (haN:a≤N) (J:Heap→Nat→AFrame→Heap→Prop) (X:AFrame→Heap→Prop) (h0:J H a FR H)
  (step:∀ i fr h,a≤i→i<N→Agree mod fr FR→J H i fr h→WP P raw base c ⟨fr,h⟩ (thenQ (fun s'=>Agree mod s'.fr FR∧J H (i+1) s'.fr s'.h) (inBlockQ id (thenQ (fun s'=>Agree mod s'.fr FR∧X s'.fr s'.h) Q))))
  (last:∀ fr h,Agree mod fr FR→J H N fr h→WP P raw base c ⟨fr,h⟩ (thenQ (fun _=>False) (inBlockQ id (thenQ (fun s'=>Agree mod s'.fr FR∧X s'.fr s'.h) Q))))
  (k:∀ fr h,Agree mod fr FR→X fr h→Q .normal ⟨fr,h⟩):WP P raw base (.loop c) ⟨FR,H⟩ (inBlockQ id Q):=by
 have key:∀ e s',inBlockQ id (thenQ (fun s'=>Agree mod s'.fr FR∧X s'.fr s'.h) Q) e s'→inBlockQ id Q e s':=fun e s' hq=>by
  cases e with
  | normal=>exact k _ _ hq.1 hq.2
  | ret=>exact hq
  | exit id' =>
   simp only [inBlockQ] at hq ⊢
   split
   ·rename_i c;rw [if_pos c] at hq;exact k _ _ hq.1 hq.2
   ·rename_i c;rw [if_neg c] at hq;exact hq
 refine WP_count mod a N haN J h0 (fun i fr h h1 h2 h3 h4=>?_) fun fr h h3 h4=>?_
 ·obtain ⟨e,s',h5,h6⟩:=step i fr h h1 h2 h3 h4
  refine ⟨e,s',h5,?_⟩
  cases e with
  | normal=>exact h6
  | ret=>exact key .ret s' h6
  | exit id'=>exact key (.exit id') s' h6
 ·obtain ⟨e,s',h5,h6⟩:=last fr h h3 h4
  refine ⟨e,s',h5,?_⟩
  cases e with
  | normal=>exact h6
  | ret=>exact key .ret s' h6
  | exit id'=>exact key (.exit id') s' h6
end Go.AM
namespace Go.AM
open Go.Proofs.Tryz
attribute [-go_sem] put_ne put_same
attribute [local go_sem ↓] put_if
abbrev cutB (c:Ct):ABlk:=⟨.cells [.int .i64 c.w,.int .i64 c.f,.bool c.j] 95 false false,0⟩
def uniO (R:Rib) (w:Wnt) (x:Nat) (j:Bool):List Int × Int:=if (j && badF R x)=true then ([],0) else uniP R w x j
theorem unL_at {bad:Nat→Bool} {j:Bool} {lg:Int} {L i:Nat} {o:List Int} {f:Int} (hi:i<L):unL bad j lg (L-i) i o f=if (o.length:Int)<lg then unL bad j lg (L-(i+1)) (i+1) (unS bad j i o f).1 (unS bad j i o f).2 else (o,f):=by
 rw [show L-i=(L-(i+1))+1 by omega,unL]
theorem unK_small {x lim u:Nat} {lg:Int} {o:List Int} {f:Int} (h:UnK x lim lg u o f) (hu:u≤60):Small o:=⟨by have:=h.n;omega,fun y hy=>by have:=h.b y hy;omega⟩
theorem UnK.mono {x lim u u':Nat} {lg:Int} {o:List Int} {f:Int} (h:UnK x lim lg u o f) (hu:u≤u'):UnK x lim lg u' o f:=⟨h.p,fun y hy=>by have:=h.b y hy;omega,by have:=h.n;omega,h.g,h.f⟩
set_option maxRecDepth 100000 in
set_option maxHeartbeats 4000000 in
theorem run_units {base id:Nat} {h:Heap} {R:Rib} {k x:Nat} {j:Bool} {w:Wnt} (hb:base≤h.length) (hD:DskAt h id R) (hR:RibOk R) (hw:R.W[k]?=some w) (hx:x<R.L.toNat) :
  Ret prog raw base (.fn 65 [] []) [.ptr (some ⟨id,0,0⟩),.agg [.int .i64 (k:Int),.int .i64 (x:Int),.bool j]] h (fun v H=>Ext h H∧∃ ov,v=.tuple [ov,.int .i64 (uniO R w x j).2,.bool (okT R w x j)]∧Own encI 3 h.length H ov (uniO R w x j).1):=by
 obtain ⟨fv,wv,gd,hF,hW⟩:=hD
 have hL:=hR.L
 have hk:=(List.getElem?_eq_some_iff.1 hw).1
 have hwk:=hR.W w (List.mem_of_getElem? hw)
 have hlg:=hwk.lg
 have lid:=lt_of_get gd
 obtain ⟨G,eG⟩:∃ G,G=h++[cutB ⟨k,x,j⟩]:=⟨_,rfl⟩
 have xG:Ext h G:=by rw [eG];exact .app .refl
 have gc:G[h.length]?=some (cutB ⟨k,x,j⟩):=by rw [eG];exact get_eq rfl
 have lG:G.length=h.length+1:=by rw [eG];simp
 have gdG:=xG.get gd
 have hx60:x<60:=by omega
 have dL:=fun z=>dsk_ld0 (L:=R.L) (fv:=fv) (wv:=wv) (F:=R.F) (z:=z)
 have dW:=fun z=>dsk_ld2 (L:=R.L) (fv:=fv) (wv:=wv) (F:=R.F) (z:=z)
 have dX:=fun z=>dsk_ldu (L:=R.L) (fv:=fv) (wv:=wv) (F:=R.F) (z:=z) hx60
 have ebx:decide ((x:Int) ∈ R.F)=badF R x:=rfl
 rw [ebx] at dX
 unfold cutB at eG gc
 refine ret_raw func65 rfl (by kernel_rfl) ?_
 rcases Bool.eq_false_or_eq_true (j && badF R x) with hj|hj
 ·obtain ⟨rfl,hbx⟩:=Bool.and_eq_true_iff.1 hj
  rw [hbx] at dX
  have hsp:=@Nat.succ_ne_zero;repeat' (first|simp (disch:=first|exact dqb|fail) only [go_sem,↓reduceIte,hsp,← eG,gc,gdG,dX]|refine WP_drw ?_|refine cnd_intro (fun hsp=>?_) fun hsp=>?_)
  have e1:uniO R w x true=([],0):=by unfold uniO;rw [if_pos hj]
  have e2:okT R w x true=false:=by unfold okT;rw [hj];rfl
  rw [e1,e2]
  exact ⟨xG,_,rfl,Own.nil⟩
 ·have e1:uniO R w x j=uniP R w x j:=by unfold uniO;rw [if_neg (by rw [hj];simp)]
  have e2:okT R w x j=decide (((uniP R w x j).1.length:Int)=w.lg):=by unfold okT;rw [hj];rfl
  rw [e1,e2]
  have st:∀ (J':Bool),J'=j→(J'=true→badF R x=false):=fun J' q z=>by subst q;rw [z] at hj;simpa using hj
  rcases Bool.eq_false_or_eq_true j with hjj|hjj
  ·subst hjj
   have hbx:=st true rfl rfl
   rw [hbx] at dX
   have hsp:=@Nat.succ_ne_zero;repeat' (first|simp (disch:=first|exact dqb|fail) only [go_sem,↓reduceIte,hsp,← eG,gc,gdG,dX]|refine WP_drw ?_|refine cnd_intro (fun hsp=>?_) fun hsp=>?_)
   refine WP_cmeet [(7,88)] x R.L.toNat (Nat.le_of_lt hx) (fun _ i fr H=>fr 9=.int .i64 (i:Int)∧∃ ov o f,fr 7=ov∧fr 8=.int .i64 f∧Ext G H∧Own encI 3 G.length H ov o∧unL (badF R) true w.lg (R.L.toNat-i) i o f=uniP R w x true∧UnK x 0 w.lg i o f) (fun fr H=>∃ ov,fr 7=ov∧fr 8=.int .i64 (uniP R w x true).2∧Ext G H∧Own encI 3 G.length H ov (uniP R w x true).1∧UnK x 0 w.lg R.L.toNat (uniP R w x true).1 (uniP R w x true).2) ?_ ?_ ?_ ?_
   ·exact ⟨by (simp (disch:=first|exact dqb|fail) only [go_sem,↓reduceIte,Int.natCast_zero];first|done|rfl),_,_,_,by simp (disch:=first|exact dqb|fail) only [go_sem,↓reduceIte],by simp (disch:=first|exact dqb|fail) only [go_sem,↓reduceIte],.refl,Own.nil,rfl,UnK.start⟩
   ·rintro i fr H hi0 hi hA ⟨r9,ov,o,f,r7,r8,xH,hO,hun,hK⟩
    have p0:=hA 0 rfl
    have p3:=hA 3 rfl
    have p4:=hA 4 rfl
    have p5:=hA 5 rfl
    have p6:=hA 6 rfl
    try simp (disch:=first|exact dqb|fail) only [go_sem,↓reduceIte] at p0 p3 p4 p5 p6
    have gdH:=xH.get gdG
    have gcH:=xH.get gc
    have lH:=xH.len
    have hsm:=unK_small hK (by omega)
    have iO:=own_ints hO hsm
    have hno:=lenI iO
    have oO:=hO.one
    have iW:=hW.ext (xG.trans xH)
    have a1:=wnt_ad iW hk
    have a2:=wnt_f0 iW hk
    have a3:=wnt_l0 iW hw
    have hlt:((i:Int)<R.L)=True:=eq_true (by omega)
    have hi60:i<60:=by omega
    have dI:=fun z=>dsk_ldu (L:=R.L) (fv:=fv) (wv:=wv) (F:=R.F) (z:=z) hi60
    have ebi:decide ((i:Int) ∈ R.F)=badF R i:=rfl
    rw [ebi] at dI
    by_cases c1:(o.length:Int)<w.lg
    ·have t1:((o.length:Int)<w.lg)=True:=eq_true c1
     have hK2:=hK.step (j:=true) (bad:=badF R) c1
     rw [unL_at hi,if_pos c1] at hun
     have hol:=hK.n
     obtain ⟨ov',H',ea,oO',l',e',on'⟩:=hO.append1 (P:=prog) (y:=(i:Int)) (a:=.int .i64 (i:Int)) (base:=base) (t:=35) rfl rfl Fc.el35 encI_sc (show base≤G.length by omega) lH (by omega)
     have xH2:=e' G (Nat.le_refl _) xH
     rcases Bool.eq_false_or_eq_true (badF R i) with qb|qb
     ·rw [qb] at dI
      have eS:unS (badF R) true i o f=(o,f):=by unfold unS;rw [qb];rfl
      rw [eS] at hun hK2
      have hsp:=@Nat.succ_ne_zero;repeat' (first|simp (disch:=first|exact dqb|fail) only [go_sem,↓reduceIte,hsp,r9,r7,r8,p0,p3,p4,p5,p6,gdH,gcH,dL,dW,dI,hlt,hno,a1,a2,a3,t1]|refine WP_drw ?_|refine cnd_intro (fun hsp=>?_) fun hsp=>?_)
      exact ⟨agq,by omega,ov,o,f,rfl,rfl,xH,hO,hun,hK2⟩
     ·rw [qb] at dI
      have hf:=hK.f
      by_cases c2:(o.length:Int) > 0
      ·have t2:((o.length:Int) > 0)=True:=eq_true c2
       have el:((o.length:Int)-1).toNat=o.length-1:=by omega
       have al:=adrI (i:=(o.length:Int)-1) (by omega) iO (by omega)
       rw [el] at al
       have ll:=loadI iO (i:=o.length-1) (by omega)
       have hlb:=hK.b _ (getD_mem' (l:=o) (d:=0) (i:=o.length-1) (by omega))
       by_cases c3:o.getD (o.length-1) 0<(i:Int)-1
       ·have t3:(o.getD (o.length-1) 0<(i:Int)-1)=True:=eq_true c3
        have eS:unS (badF R) true i o f=(o++[(i:Int)],f+1):=by
         unfold unS gapB;rw [qb,decide_eq_true c3,decide_eq_true (by omega:0<o.length)];rfl
        rw [eS] at hun hK2
        have hsp:=@Nat.succ_ne_zero;repeat' (first|simp (disch:=first|exact dqb|fail) only [go_sem,↓reduceIte,hsp,r9,r7,r8,p0,p3,p4,p5,p6,gdH,gcH,dL,dW,dI,hlt,hno,a1,a2,a3,t1,t2,al,ll,t3,ea]|refine WP_drw ?_|refine cnd_intro (fun hsp=>?_) fun hsp=>?_)
        exact ⟨agq,by omega,ov',o++[(i:Int)],f+1,rfl,rfl,xH2,oO',hun,hK2⟩
       ·have t3:(o.getD (o.length-1) 0<(i:Int)-1)=False:=eq_false c3
        have eS:unS (badF R) true i o f=(o++[(i:Int)],f):=by
         unfold unS gapB;rw [qb,decide_eq_false c3,Bool.and_false,Bool.and_false];rfl
        rw [eS] at hun hK2
        have hsp:=@Nat.succ_ne_zero;repeat' (first|simp (disch:=first|exact dqb|fail) only [go_sem,↓reduceIte,hsp,r9,r7,r8,p0,p3,p4,p5,p6,gdH,gcH,dL,dW,dI,hlt,hno,a1,a2,a3,t1,t2,al,ll,t3,ea]|refine WP_drw ?_|refine cnd_intro (fun hsp=>?_) fun hsp=>?_)
        exact ⟨agq,by omega,ov',o++[(i:Int)],f,rfl,rfl,xH2,oO',hun,hK2⟩
      ·have t2:((o.length:Int) > 0)=False:=eq_false c2
       have eS:unS (badF R) true i o f=(o++[(i:Int)],f):=by
        unfold unS gapB;rw [qb,decide_eq_false (by omega:¬ 0<o.length)];rfl
       rw [eS] at hun hK2
       have hsp:=@Nat.succ_ne_zero;repeat' (first|simp (disch:=first|exact dqb|fail) only [go_sem,↓reduceIte,hsp,r9,r7,r8,p0,p3,p4,p5,p6,gdH,gcH,dL,dW,dI,hlt,hno,a1,a2,a3,t1,t2,ea]|refine WP_drw ?_|refine cnd_intro (fun hsp=>?_) fun hsp=>?_)
       exact ⟨agq,by omega,ov',o++[(i:Int)],f,rfl,rfl,xH2,oO',hun,hK2⟩
    ·have t1:((o.length:Int)<w.lg)=False:=eq_false c1
     rw [unL_at hi,if_neg c1] at hun
     have hsp:=@Nat.succ_ne_zero;repeat' (first|simp (disch:=first|exact dqb|fail) only [go_sem,↓reduceIte,hsp,r9,r7,r8,p0,p3,p4,p5,p6,gdH,gcH,dL,dW,hlt,hno,a1,a2,a3,t1]|refine WP_drw ?_|refine cnd_intro (fun hsp=>?_) fun hsp=>?_)
     rw [← hun]
     exact ⟨agq,ov,rfl,rfl,xH,hO,hK.mono (by omega)⟩
   ·rintro fr H hA ⟨r9,ov,o,f,r7,r8,xH,hO,hun,hK⟩
    have p0:=hA 0 rfl
    have p3:=hA 3 rfl
    have p4:=hA 4 rfl
    have p5:=hA 5 rfl
    have p6:=hA 6 rfl
    try simp (disch:=first|exact dqb|fail) only [go_sem,↓reduceIte] at p0 p3 p4 p5 p6
    have gdH:=xH.get gdG
    have lH:=xH.len
    have hlt:(((R.L.toNat:Nat):Int)<R.L)=False:=eq_false (by omega)
    rw [Nat.sub_self,unL] at hun
    have hsp:=@Nat.succ_ne_zero;repeat' (first|simp (disch:=first|exact dqb|fail) only [go_sem,↓reduceIte,hsp,r9,r7,r8,p0,p3,p4,p5,p6,gdH,dL,hlt]|refine WP_drw ?_|refine cnd_intro (fun hsp=>?_) fun hsp=>?_)
    rw [← hun]
    exact ⟨agq,ov,rfl,rfl,xH,hO,hK⟩
   ·rintro fr H hA ⟨ov,r7,r8,xH,hO,hK⟩
    have p0:=hA 0 rfl
    have p3:=hA 3 rfl
    have p4:=hA 4 rfl
    have p5:=hA 5 rfl
    have p6:=hA 6 rfl
    try simp (disch:=first|exact dqb|fail) only [go_sem,↓reduceIte] at p0 p3 p4 p5 p6
    have gdH:=xH.get gdG
    have gcH:=xH.get gc
    have lH:=xH.len
    have iO:=own_ints hO (unK_small hK (by omega))
    have hno:=lenI iO
    have oO:=hO.one
    have iW:=hW.ext (xG.trans xH)
    have a1:=wnt_ad iW hk
    have a2:=wnt_f0 iW hk
    have a3:=wnt_l0 iW hw
    have hsp:=@Nat.succ_ne_zero;repeat' (first|simp (disch:=first|exact dqb|fail) only [go_sem,↓reduceIte,hsp,r7,r8,p0,p3,p4,p5,p6,gdH,gcH,dL,dW,hno,a1,a2,a3]|refine WP_drw ?_|refine cnd_intro (fun hsp=>?_) fun hsp=>?_)
    exact ⟨xG.trans xH,_,rfl,hO.low (by omega)⟩
  ·subst hjj
   have hsp:=@Nat.succ_ne_zero;repeat' (first|simp (disch:=first|exact dqb|fail) only [go_sem,↓reduceIte,hsp,← eG,gc,gdG]|refine WP_drw ?_|refine cnd_intro (fun hsp=>?_) fun hsp=>?_)
   refine WP_cmeet [(7,88)] x R.L.toNat (Nat.le_of_lt hx) (fun _ i fr H=>fr 9=.int .i64 (i:Int)∧∃ ov o f,fr 7=ov∧fr 8=.int .i64 f∧Ext G H∧Own encI 3 G.length H ov o∧unL (badF R) false w.lg (R.L.toNat-i) i o f=uniP R w x false∧UnK x 0 w.lg i o f) (fun fr H=>∃ ov,fr 7=ov∧fr 8=.int .i64 (uniP R w x false).2∧Ext G H∧Own encI 3 G.length H ov (uniP R w x false).1∧UnK x 0 w.lg R.L.toNat (uniP R w x false).1 (uniP R w x false).2) ?_ ?_ ?_ ?_
   ·exact ⟨by (simp (disch:=first|exact dqb|fail) only [go_sem,↓reduceIte,Int.natCast_zero];first|done|rfl),_,_,_,by simp (disch:=first|exact dqb|fail) only [go_sem,↓reduceIte],by simp (disch:=first|exact dqb|fail) only [go_sem,↓reduceIte],.refl,Own.nil,rfl,UnK.start⟩
   ·rintro i fr H hi0 hi hA ⟨r9,ov,o,f,r7,r8,xH,hO,hun,hK⟩
    have p0:=hA 0 rfl
    have p3:=hA 3 rfl
    have p4:=hA 4 rfl
    have p5:=hA 5 rfl
    have p6:=hA 6 rfl
    try simp (disch:=first|exact dqb|fail) only [go_sem,↓reduceIte] at p0 p3 p4 p5 p6
    have gdH:=xH.get gdG
    have gcH:=xH.get gc
    have lH:=xH.len
    have hsm:=unK_small hK (by omega)
    have iO:=own_ints hO hsm
    have hno:=lenI iO
    have oO:=hO.one
    have iW:=hW.ext (xG.trans xH)
    have a1:=wnt_ad iW hk
    have a2:=wnt_f0 iW hk
    have a3:=wnt_l0 iW hw
    have hlt:((i:Int)<R.L)=True:=eq_true (by omega)
    have hi60:i<60:=by omega
    have dI:=fun z=>dsk_ldu (L:=R.L) (fv:=fv) (wv:=wv) (F:=R.F) (z:=z) hi60
    have ebi:decide ((i:Int) ∈ R.F)=badF R i:=rfl
    rw [ebi] at dI
    by_cases c1:(o.length:Int)<w.lg
    ·have t1:((o.length:Int)<w.lg)=True:=eq_true c1
     have hK2:=hK.step (j:=false) (bad:=badF R) c1
     rw [unL_at hi,if_pos c1] at hun
     have hol:=hK.n
     obtain ⟨ov',H',ea,oO',l',e',on'⟩:=hO.append1 (P:=prog) (y:=(i:Int)) (a:=.int .i64 (i:Int)) (base:=base) (t:=35) rfl rfl Fc.el35 encI_sc (show base≤G.length by omega) lH (by omega)
     have xH2:=e' G (Nat.le_refl _) xH
     have hf:=hK.f
     rcases Bool.eq_false_or_eq_true (badF R i) with qb|qb
     ·rw [qb] at dI
      have eS:unS (badF R) false i o f=(o++[(i:Int)],f+1):=by unfold unS;rw [qb];rfl
      rw [eS] at hun hK2
      have hsp:=@Nat.succ_ne_zero;repeat' (first|simp (disch:=first|exact dqb|fail) only [go_sem,↓reduceIte,hsp,r9,r7,r8,p0,p3,p4,p5,p6,gdH,gcH,dL,dW,dI,hlt,hno,a1,a2,a3,t1,ea]|refine WP_drw ?_|refine cnd_intro (fun hsp=>?_) fun hsp=>?_)
      exact ⟨agq,by omega,ov',o++[(i:Int)],f+1,rfl,rfl,xH2,oO',hun,hK2⟩
     ·rw [qb] at dI
      have eS:unS (badF R) false i o f=(o++[(i:Int)],f):=by unfold unS;rw [qb];rfl
      rw [eS] at hun hK2
      have hsp:=@Nat.succ_ne_zero;repeat' (first|simp (disch:=first|exact dqb|fail) only [go_sem,↓reduceIte,hsp,r9,r7,r8,p0,p3,p4,p5,p6,gdH,gcH,dL,dW,dI,hlt,hno,a1,a2,a3,t1,ea]|refine WP_drw ?_|refine cnd_intro (fun hsp=>?_) fun hsp=>?_)
      exact ⟨agq,by omega,ov',o++[(i:Int)],f,rfl,rfl,xH2,oO',hun,hK2⟩
    ·have t1:((o.length:Int)<w.lg)=False:=eq_false c1
     rw [unL_at hi,if_neg c1] at hun
     have hsp:=@Nat.succ_ne_zero;repeat' (first|simp (disch:=first|exact dqb|fail) only [go_sem,↓reduceIte,hsp,r9,r7,r8,p0,p3,p4,p5,p6,gdH,gcH,dL,dW,hlt,hno,a1,a2,a3,t1]|refine WP_drw ?_|refine cnd_intro (fun hsp=>?_) fun hsp=>?_)
     rw [← hun]
     exact ⟨agq,ov,rfl,rfl,xH,hO,hK.mono (by omega)⟩
   ·rintro fr H hA ⟨r9,ov,o,f,r7,r8,xH,hO,hun,hK⟩
    have p0:=hA 0 rfl
    have p3:=hA 3 rfl
    have p4:=hA 4 rfl
    have p5:=hA 5 rfl
    have p6:=hA 6 rfl
    try simp (disch:=first|exact dqb|fail) only [go_sem,↓reduceIte] at p0 p3 p4 p5 p6
    have gdH:=xH.get gdG
    have lH:=xH.len
    have hlt:(((R.L.toNat:Nat):Int)<R.L)=False:=eq_false (by omega)
    rw [Nat.sub_self,unL] at hun
    have hsp:=@Nat.succ_ne_zero;repeat' (first|simp (disch:=first|exact dqb|fail) only [go_sem,↓reduceIte,hsp,r9,r7,r8,p0,p3,p4,p5,p6,gdH,dL,hlt]|refine WP_drw ?_|refine cnd_intro (fun hsp=>?_) fun hsp=>?_)
    rw [← hun]
    exact ⟨agq,ov,rfl,rfl,xH,hO,hK⟩
   ·rintro fr H hA ⟨ov,r7,r8,xH,hO,hK⟩
    have p0:=hA 0 rfl
    have p3:=hA 3 rfl
    have p4:=hA 4 rfl
    have p5:=hA 5 rfl
    have p6:=hA 6 rfl
    try simp (disch:=first|exact dqb|fail) only [go_sem,↓reduceIte] at p0 p3 p4 p5 p6
    have gdH:=xH.get gdG
    have gcH:=xH.get gc
    have lH:=xH.len
    have iO:=own_ints hO (unK_small hK (by omega))
    have hno:=lenI iO
    have oO:=hO.one
    have iW:=hW.ext (xG.trans xH)
    have a1:=wnt_ad iW hk
    have a2:=wnt_f0 iW hk
    have a3:=wnt_l0 iW hw
    have hsp:=@Nat.succ_ne_zero;repeat' (first|simp (disch:=first|exact dqb|fail) only [go_sem,↓reduceIte,hsp,r7,r8,p0,p3,p4,p5,p6,gdH,gcH,dL,dW,hno,a1,a2,a3]|refine WP_drw ?_|refine cnd_intro (fun hsp=>?_) fun hsp=>?_)
    exact ⟨xG.trans xH,_,rfl,hO.low (by omega)⟩
end Go.AM
namespace Go.AM
open Go.Proofs.Tryz
theorem dqc {p:Prop} (h:p:=by first|exact Nat.ne_of_beq_eq_false rfl|assumption|(apply asOne;(first|exact One.int|exact One.bool|assumption|exact Ints.one (by assumption)|exact Rows.one (by assumption)|exact Own.one (by assumption)|exact One.lit ⟨rfl,rfl,rfl⟩))|(apply asInts;(repeat first|assumption|exact ints_nil|apply Ints.app);done)|(apply asRows;(repeat first|assumption|exact Rows.nil|apply Rows.app);done)|(apply asScal;apply allS5<;>exact One.int) |(apply asScal;(first|apply allS1|apply allS2|apply allS3|apply allS4)<;>(first|exact One.int|exact One.bool|assumption|exact Ints.one (by assumption)|exact Rows.one (by assumption)|exact Own.one (by assumption)|exact One.lit ⟨rfl,rfl,rfl⟩))|exact litT rfl|exact litF rfl|omega|(simp only [List.length_append,List.length_cons,List.length_nil,List.length_set,List.length_reverse];first|done|omega)|fail):p:=h
attribute [-go_sem] put_ne put_same
attribute [local go_sem ↓] put_if
def takV:Option (Int × Int)→AVal
 | some e=>.tuple [.agg [.int .i64 e.1,.int .i64 e.2],.bool true]
 | none=>.tuple [.agg [.int .i64 0,.int .i64 0],.bool false]
abbrev wntBk (w:Wnt):ABlk:=⟨.cells [.int .i64 w.lg,.int .i64 w.pr,.int .i64 w.off,.int .i64 w.fl,.int .i64 w.jn] 74 false false,0⟩
set_option maxRecDepth 100000 in
set_option maxHeartbeats 4000000 in
theorem run_take {base id:Nat} {h:Heap} {R:Rib} {k x:Nat} {j:Bool} {w:Wnt} (hD:DskAt h id R) (hR:RibOk R) (hw:R.W[k]?=some w) (hx:x<R.L.toNat) :
  callL prog raw base (.fn 150 [] []) [.ptr (some ⟨id,0,0⟩),.agg [.int .i64 (k:Int),.int .i64 (x:Int),.bool j]] h=some (takV (takL R w x j),h):=by
 have hDe:=fun H (e:Ext h H)=>hD.ext e
 obtain ⟨fv,wv,gd,hF,hW⟩:=hD
 have hL:=hR.L
 have hk:=(List.getElem?_eq_some_iff.1 hw).1
 have hwk:=hR.W w (List.mem_of_getElem? hw)
 have hlg:=hwk.lg
 have hpr:=hwk.pr
 have hof:=hwk.off
 have hfl:=hwk.fl
 have hjn:=hwk.jn
 have lid:=lt_of_get gd
 obtain ⟨G,eG⟩:∃ G,G=h++[cutB ⟨k,x,j⟩]++[⟨.cells [.int .i64 0,.int .i64 0] 262 false false,0⟩]:=⟨_,rfl⟩
 have xG:Ext h G:=by rw [eG];exact .app (.app .refl)
 have gc:G[h.length]?=some (cutB ⟨k,x,j⟩):=by rw [eG];exact get_app (get_eq rfl)
 have gw:G[h.length+1]?=some ⟨.cells [.int .i64 0,.int .i64 0] 262 false false,0⟩:=by rw [eG];exact get_eq (by simp)
 have lG:G.length=h.length+2:=by rw [eG];simp
 obtain ⟨v1,H1,e1,x1,ov,rfl,hO⟩:=run_units (base:=h.length) (k:=k) (x:=x) (j:=j) (by omega) (hDe G xG) hR hw hx
 have gc1:=x1.get gc
 have gw1:=x1.get gw
 have gd1:=(xG.trans x1).get gd
 have l1:=x1.len
 have xh1:=xG.trans x1
 have iW:=hW.ext xh1
 have a1:=wnt_ad iW hk
 have a2:=wnt_ld iW hw
 have dW:=fun z=>dsk_ld2 (L:=R.L) (fv:=fv) (wv:=wv) (F:=R.F) (z:=z)
 obtain ⟨G2,eG2⟩:∃ G2,G2=H1++[wntBk w]:=⟨_,rfl⟩
 have x2:Ext H1 G2:=by rw [eG2];exact .app .refl
 have gw2:G2[H1.length]?=some (wntBk w):=by rw [eG2];exact get_eq rfl
 have gc2:=x2.get gc1
 have gv2:=x2.get gw1
 have l2:G2.length=H1.length+1:=by rw [eG2];simp
 have xh2:=xh1.trans x2
 have oO:=hO.one
 obtain ⟨u,hu1,hu2,hUK,_⟩:=uniP_k (w:=w) (j:=j) hR hx
 have hfb:0≤(uniO R w x j).2∧(uniO R w x j).2≤60∧Small (uniO R w x j).1:=by
  unfold uniO
  split
  ·exact ⟨by simp,by simp,by simp,fun y hy=>by simp at hy⟩
  ·have:=hUK.f;have:=hUK.n
   exact ⟨by omega,by omega,unK_small hUK (by omega)⟩
 obtain ⟨o,eo⟩:∃ o,o=(uniO R w x j).1:=⟨_,rfl⟩
 obtain ⟨f,ef⟩:∃ f,f=(uniO R w x j).2:=⟨_,rfl⟩
 rw [← eo,← ef] at hfb
 rw [← eo] at hO
 rw [← ef] at e1
 obtain ⟨hf0,hf1,hsm⟩:=hfb
 have hmul:0≤w.off * f∧w.off * f≤1200:=⟨Int.mul_nonneg hof.1 hf0,by
  have:=Int.mul_le_mul hof.2 hf1 hf0 (by omega:(0:Int)≤20)
  omega⟩
 have iO:=own_ints (hO.ext x2) hsm
 have hno:=lenI iO
 have xl:∀ q,q=j→limW w q=limW w j:=fun q e=>by rw [e]
 unfold cutB at eG gc gc1 gc2
 unfold wntBk at eG2 gw2
 have eG':h++[(⟨.cells [.int .i64 (k:Int),.int .i64 (x:Int),.bool j] 95 false false,0⟩:ABlk)]++[⟨.cells [.int .i64 0,.int .i64 0] 262 false false,0⟩]=G:=eG.symm
 refine callL_run func150 rfl rfl ?_
 cases hok:okT R w x j with
 | false =>
  rw [hok] at e1
  have et:takL R w x j=none:=by unfold takL;rw [if_neg (fun q=>by rw [hok] at q;exact Bool.noConfusion q.1)]
  rw [et]
  cases j with
  | true =>
   have hsp:=@Nat.succ_ne_zero;repeat' (first|simp (disch:=first|exact dqc|fail) only [go_sem,↓reduceIte,hsp,eG',gc,e1,gc1,gd1,dW,a1,a2,← eG2,gw2,gc2,gv2]|refine WP_drw ?_|refine cnd_intro (fun hsp=>?_) fun hsp=>?_)
   exact fin_pl rfl rfl (Ext.set xh2 (by omega))
  | false =>
   have hsp:=@Nat.succ_ne_zero;repeat' (first|simp (disch:=first|exact dqc|fail) only [go_sem,↓reduceIte,hsp,eG',gc,e1,gc1,gd1,dW,a1,a2,← eG2,gw2,gc2,gv2]|refine WP_drw ?_|refine cnd_intro (fun hsp=>?_) fun hsp=>?_)
   exact fin_pl rfl rfl (Ext.set xh2 (by omega))
 | true =>
  rw [hok] at e1
  have hj:(j && badF R x)=false:=by
   unfold okT at hok
   cases hq:(j && badF R x) with
   | false=>rfl
   | true=>rw [hq] at hok;cases hok
  have eu:uniO R w x j=uniP R w x j:=by unfold uniO;rw [if_neg (by rw [hj];simp)]
  have eo2:(uniP R w x j).1=o:=by rw [eo,eu]
  have ef2:(uniP R w x j).2=f:=by rw [ef,eu]
  have hlen:(o.length:Int)=w.lg:=by
   unfold okT at hok
   rw [eo2,Bool.and_eq_true] at hok
   exact of_decide_eq_true hok.2
  have el:((o.length:Int)-1).toNat=o.length-1:=by omega
  have al:=adrI (i:=(o.length:Int)-1) (by omega) iO (by omega)
  rw [el] at al
  have ll:=loadI iO (i:=o.length-1) (by omega)
  have hlb:0≤o.getD (o.length-1) 0∧o.getD (o.length-1) 0<60:=by
   have:=hUK.b (o.getD (o.length-1) 0) (by rw [eo2];exact getD_mem' (by omega))
   omega
  have hm1:=fun base (A:Heap)=>run_most1 (base:=base) (m:=A.length) (A:=A) (n:=0) (x:=w.pr-w.off * f) rfl (by omega)
  by_cases hlim:f≤limW w j
  ·have et:takL R w x j=some (o.getD (o.length-1) 0+1,max 0 (w.pr-w.off * f)):=by
    unfold takL;rw [eo2,ef2,if_pos ⟨hok,hlim⟩]
   rw [et]
   cases j with
   | true =>
    have tl:(f > w.jn)=False:=eq_false (by simp only [limW,if_true] at hlim;omega)
    have hsp:=@Nat.succ_ne_zero;repeat' (first|simp (disch:=first|exact dqc|fail) only [go_sem,↓reduceIte,hsp,eG',gc,e1,gc1,gd1,dW,a1,a2,← eG2,gw2,gc2,gv2,tl,hno,al,ll,hm1]|refine WP_drw ?_|refine cnd_intro (fun hsp=>?_) fun hsp=>?_)
    exact fin_pl rfl rfl (.app (Ext.set xh2 (by omega)))
   | false =>
    have tl:(f > w.fl)=False:=eq_false (by simp only [limW,Bool.false_eq_true,if_false] at hlim;omega)
    have hsp:=@Nat.succ_ne_zero;repeat' (first|simp (disch:=first|exact dqc|fail) only [go_sem,↓reduceIte,hsp,eG',gc,e1,gc1,gd1,dW,a1,a2,← eG2,gw2,gc2,gv2,tl,hno,al,ll,hm1]|refine WP_drw ?_|refine cnd_intro (fun hsp=>?_) fun hsp=>?_)
    exact fin_pl rfl rfl (.app (Ext.set xh2 (by omega)))
  ·have et:takL R w x j=none:=by
    unfold takL;rw [eo2,ef2,if_neg (fun q=>hlim q.2)]
   rw [et]
   cases j with
   | true =>
    have tl:(f > w.jn)=True:=eq_true (by simp only [limW,if_true] at hlim;omega)
    have hsp:=@Nat.succ_ne_zero;repeat' (first|simp (disch:=first|exact dqc|fail) only [go_sem,↓reduceIte,hsp,eG',gc,e1,gc1,gd1,dW,a1,a2,← eG2,gw2,gc2,gv2,tl]|refine WP_drw ?_|refine cnd_intro (fun hsp=>?_) fun hsp=>?_)
    exact fin_pl rfl rfl (Ext.set xh2 (by omega))
   | false =>
    have tl:(f > w.fl)=True:=eq_true (by simp only [limW,Bool.false_eq_true,if_false] at hlim;omega)
    have hsp:=@Nat.succ_ne_zero;repeat' (first|simp (disch:=first|exact dqc|fail) only [go_sem,↓reduceIte,hsp,eG',gc,e1,gc1,gd1,dW,a1,a2,← eG2,gw2,gc2,gv2,tl]|refine WP_drw ?_|refine cnd_intro (fun hsp=>?_) fun hsp=>?_)
    exact fin_pl rfl rfl (Ext.set xh2 (by omega))
end Go.AM
namespace Go.AM
open Go.Proofs.Tryz
attribute [-go_sem] put_ne put_same
attribute [local go_sem ↓] put_if
abbrev pB (id:Nat):ABlk:=⟨.cells [.ptr (some ⟨id,0,0⟩)] 142 false false,0⟩
abbrev nB (x:Int):ABlk:=⟨.cells [.int .i64 x] 3 false false,0⟩
def tfB:ABlk:=⟨.cells [.bool false,.bool true] 4 true false,0⟩
abbrev wayB (e p:Int):ABlk:=⟨.cells [.int .i64 e,.int .i64 p] 262 false false,0⟩
abbrev cutV (c:Ct):AVal:=.agg [.int .i64 c.w,.int .i64 c.f,.bool c.j]
abbrev wayV (e:Int × Int):AVal:=.agg [.int .i64 e.1,.int .i64 e.2]
def XC (R:Rib) (x j:Nat) (a:List AVal) (_:Heap):Prop:=∃ c,(cutL R x)[j]?=some c∧a=[cutV c.1,wayV c.2]
def prT (b:ABlk):Prop:=b=tfB
theorem cutM_succ {R:Rib} {x i:Nat}:cutM R x (i+1)=cutM R x i++(cutO R x i).toList:=by
 unfold cutM
 rw [List.range_succ,List.filterMap_append]
 congr 1
theorem cutM_pre {R:Rib} {x i:Nat}:∀ {d:Nat},∃ l,cutM R x (i+d)=cutM R x i++l
 | 0=>⟨[],by simp⟩
 | d+1=>by
  obtain ⟨l,hl⟩:=cutM_pre (R:=R) (x:=x) (i:=i) (d:=d)
  exact ⟨l++(cutO R x (i+d)).toList,by rw [show i+(d+1)=(i+d)+1 by omega,cutM_succ,hl,List.append_assoc]⟩
theorem cutL_at {R:Rib} {x i:Nat} {c:Ct × Int × Int} (hi:i<2 * R.W.length) (h:cutO R x i=some c):(cutL R x)[(cutM R x i).length]?=some c:=by
 obtain ⟨l,hl⟩:=cutM_pre (R:=R) (x:=x) (i:=i+1) (d:=2 * R.W.length-(i+1))
 unfold cutL
 rw [show 2 * R.W.length=i+1+(2 * R.W.length-(i+1)) by omega,hl,cutM_succ,h]
 simp
theorem run_cuts {base id x:Nat} {h:Heap}:Ret prog raw base (.fn 132 [] []) [.ptr (some ⟨id,0,0⟩),.int .i64 (x:Int)] h (fun w H=>w=.fn 203 [] [.ptr (some ⟨h.length,0,0⟩),.ptr (some ⟨h.length+1,0,0⟩)]∧H=h++[pB id]++[nB x]):=by
 unfold pB nB
 refine ret_raw func132 rfl (by kernel_rfl) ?_
 have hsp:=@Nat.succ_ne_zero;repeat' (first|simp (disch:=first|exact dqb|fail) only [go_sem,↓reduceIte,hsp]|refine WP_drw ?_|refine cnd_intro (fun hsp=>?_) fun hsp=>?_)
theorem bsTF0 {lit:Bool} {H:Heap} (hl:lit=false):bsA prog lit H 317 2 [(0,.bool false),(1,.bool true)]=some (.slice (some ⟨H.length,0,0⟩) 2 2,H++[tfB]):=by
 subst hl
 simp [bsA,rowOf,Fc.el317,fillA,repCells,AVal.isN,AVal.cells,splice,tfB]
set_option maxRecDepth 100000 in
set_option maxHeartbeats 4000000 in
theorem cuts_yields {base Lx db fb id x:Nat} {R:Rib} {I:Nat→Heap→Prop} (hb:base≤Lx+1) (hR:RibOk R) (hx:x<R.L.toNat) (hI:∀ j H,I j H→DskAt H id R∧H[db]?=some (pB id)∧H[fb]?=some (nB x)) :
  YieldsX prog raw base Lx (.fn 203 [] [.ptr (some ⟨db,0,0⟩),.ptr (some ⟨fb,0,0⟩)]) (cutL R x).length (XC R x) prT I:=by
 intro J S H0 hL hJI happ hcb h0
 have hext:∀ {j H H'},J j H→Ext H H'→J j H':=fun hj e=>by obtain ⟨T,rfl⟩:=e;exact happ _ _ _ hj
 obtain ⟨hI0,hl0⟩:=hJI 0 H0 h0
 obtain ⟨⟨fv,wv,gd,hF,hW⟩,gdb,gfb⟩:=hI _ _ hI0
 have lid:=lt_of_get gd
 have ldb:=lt_of_get gdb
 have lfb:=lt_of_get gfb
 have dW:=fun z=>dsk_ld2 (L:=R.L) (fv:=fv) (wv:=wv) (F:=R.F) (z:=z)
 have hn:=hW.len (P:=prog) Fc.el36
 have hWl:=hW.1
 have hnW:=hR.nW
 suffices hh:Ret prog raw base (.fn 203 [] [.ptr (some ⟨db,0,0⟩),.ptr (some ⟨fb,0,0⟩)]) [.yld Lx] H0 (fun w H'=>J (cutL R x).length H' ∨ S H') by
  obtain ⟨w,H',e,k⟩:=hh
  exact ⟨w,H',e,k⟩
 unfold pB at gdb
 refine ret_raw func203 rfl (by kernel_rfl) ?_
 have hsp:=@Nat.succ_ne_zero;repeat' (first|simp (disch:=first|exact dqb|fail) only [go_sem,↓reduceIte,hsp,gdb,gd,dW,hn]|refine WP_drw ?_|refine cnd_intro (fun hsp=>?_) fun hsp=>?_)
 refine WP_count [(4,9),(16,44)] 0 R.W.length (Nat.zero_le _) (fun _ k fr H=>fr 16=.int .i64 (k:Int)∧H0.length≤H.length∧J (cutM R x (2 * k)).length H) ?_ ?_ ?_
 ·exact ⟨by (simp (disch:=first|exact dqb|fail) only [go_sem,↓reduceIte,Int.natCast_zero];first|done|rfl),Nat.le_refl _,h0⟩
 ·rintro k fr H hk0 hk hA ⟨r16,lH,hJ⟩
  have p0:=hA 0 rfl
  have p1:=hA 1 rfl
  have p2:=hA 2 rfl
  have p15:=hA 15 rfl
  try simp (disch:=first|exact dqb|fail) only [go_sem,↓reduceIte] at p0 p1 p2 p15
  have hlt:((k:Int)<(R.W.length:Int))=True:=eq_true (by omega)
  obtain ⟨H1,eH1⟩:∃ H1,H1=H++[tfB]:=⟨_,rfl⟩
  have x1:Ext H H1:=by rw [eH1];exact .app .refl
  have g1:H1[H.length]?=some tfB:=by rw [eH1];exact get_eq rfl
  have l1:H1.length=H.length+1:=by rw [eH1];simp
  have bt:=fun lit=>bsTF0 (lit:=lit) (H:=H)
  rw [← eH1] at bt
  have hsp:=@Nat.succ_ne_zero;repeat' (first|simp (disch:=first|exact dqb|fail) only [go_sem,↓reduceIte,hsp,r16,p0,p1,p2,p15,hlt,bt]|refine WP_drw ?_|refine cnd_intro (fun hsp=>?_) fun hsp=>?_)
  refine WP_count [(6,9),(21,43)] 0 2 (by omega) (fun _ q fr K=>fr 21=.int .i64 (q:Int)∧H1.length≤K.length∧K[H.length]?=some tfB∧J (cutM R x (2 * k+q)).length K) ?_ ?_ ?_
  ·exact ⟨by (simp (disch:=first|exact dqb|fail) only [go_sem,↓reduceIte,Int.natCast_zero];first|done|rfl),Nat.le_refl _,g1,hext hJ x1⟩
  ·rintro q fr2 K hq0 hq hA2 ⟨r21,lK,gK,hJK⟩
   have d0:=hA2 0 rfl
   have d1:=hA2 1 rfl
   have d2:=hA2 2 rfl
   have d4:=hA2 4 rfl
   have d15:=hA2 15 rfl
   have d16:=hA2 16 rfl
   have d19:=hA2 19 rfl
   have d20:=hA2 20 rfl
   try simp (disch:=first|exact dqb|fail) only [go_sem,↓reduceIte,p0,p1,p2,p15] at d0 d1 d2 d4 d15 d16 d19 d20
   obtain ⟨hIK,hlK⟩:=hJI _ _ hJK
   obtain ⟨⟨fv,wv,gdK,hFK,hWK⟩,gdbK,gfbK⟩:=hI _ _ hIK
   have ldbK:=lt_of_get gdbK
   have lfbK:=lt_of_get gfbK
   have lK0:=lt_of_get gK
   have hw:R.W[k]?=some R.W[k]:=List.getElem?_eq_getElem hk
   generalize R.W[k]=w at hw
   unfold pB at gdbK
   unfold nB at gfbK
   rcases (show q=0 ∨ q=1 by omega) with rfl|rfl
   ·have hltq:((0:Int)<2)=True:=eq_true (by omega)
    have ld:∀ z,ldB (some (false,z)) (K[H.length]?) 0 0=some (.bool false):=fun z=>by rw [gK];rfl
    have ecut:cutO R x (2 * k+0)=(takL R w x false).map fun e=>(⟨(k:Int),(x:Int),false⟩,e):=by
     unfold cutO
     rw [show (2 * k+0) / 2=k by omega,hw,show decide ((2 * k+0) % 2=1)=false from decide_eq_false (by omega)]
    have hcs:=cutM_succ (R:=R) (x:=x) (i:=2 * k+0)
    have e5:=fun base=>run_take (base:=base) (j:=false) (DskAt.ext ⟨fv,wv,gdK,hFK,hWK⟩ (.app (t:=[cutB ⟨k,x,false⟩]) .refl)) hR hw hx
    obtain ⟨G1,eG1⟩:∃ G1,G1=K++[cutB ⟨k,x,false⟩]:=⟨_,rfl⟩
    have y1:Ext K G1:=by rw [eG1];exact .app .refl
    have gc:G1[K.length]?=some (cutB ⟨k,x,false⟩):=by rw [eG1];exact get_eq rfl
    have lG1:G1.length=K.length+1:=by rw [eG1];simp
    have gdb1:=y1.get gdbK
    rw [← eG1] at e5
    unfold cutB at eG1 gc
    cases ht:takL R w x false with
    | none =>
     rw [ht] at ecut e5
     rw [ecut] at hcs
     unfold takV at e5
     obtain ⟨G2,eG2⟩:∃ G2,G2=G1++[wayB 0 0]:=⟨_,rfl⟩
     have y2:Ext G1 G2:=by rw [eG2];exact .app .refl
     have y12:=y1.trans y2
     have lG2:G2.length=G1.length+1:=by rw [eG2];simp
     have gw2:G2[G1.length]?=some (wayB 0 0):=by rw [eG2];exact get_eq rfl
     have es:=set_id gw2
     unfold wayB at eG2 gw2 es
     have hsp:=@Nat.succ_ne_zero;repeat' (first|simp (disch:=first|exact dqb|fail) only [go_sem,↓reduceIte,hsp,r21,d0,d1,d2,d4,d15,d16,d19,d20,p0,p1,p2,p15,hltq,ld,gdbK,gfbK,← eG1,gc,gdb1,e5,← eG2,gw2,es]|refine WP_drw ?_|refine cnd_intro (fun hsp=>?_) fun hsp=>?_)
     refine ⟨agq,by omega,y12.get gK,?_⟩
     rw [hcs]
     simp only [Option.map_none,Option.toList,List.append_nil]
     exact hext hJK y12
    | some e =>
     rw [ht] at ecut e5
     have hat:=cutL_at (show 2 * k+0<2 * R.W.length by omega) ecut
     rw [ecut] at hcs
     unfold takV at e5
     obtain ⟨G2,eG2⟩:∃ G2,G2=G1++[wayB e.1 e.2]:=⟨_,rfl⟩
     have y2:Ext G1 G2:=by rw [eG2];exact .app .refl
     have y12:=y1.trans y2
     have lG2:G2.length=G1.length+1:=by rw [eG2];simp
     have gc2:=y2.get gc
     have gw2:G2[G1.length]?=some (wayB e.1 e.2):=by rw [eG2];exact get_eq rfl
     obtain ⟨b,H3,ey,ky,ly,yb1,yb2⟩:=hcb _ [cutV ⟨(k:Int),(x:Int),false⟩,wayV e] G2 (List.getElem?_eq_some_iff.1 hat).1 ⟨_,hat,rfl⟩ (hext hJK y12)
     have gK3:=ky _ _ (by omega) rfl (y12.get gK)
     unfold wayB at eG2 gw2
     unfold cutV wayV at ey
     cases b with
     | true =>
      have hsp:=@Nat.succ_ne_zero;repeat' (first|simp (disch:=first|exact dqb|fail) only [go_sem,↓reduceIte,hsp,r21,d0,d1,d2,d4,d15,d16,d19,d20,p0,p1,p2,p15,hltq,ld,gdbK,gfbK,← eG1,gc,gdb1,e5,← eG2,gc2,gw2,ey]|refine WP_drw ?_|refine cnd_intro (fun hsp=>?_) fun hsp=>?_)
      refine ⟨agq,by omega,gK3,?_⟩
      rw [hcs]
      simp only [Option.map_some,Option.toList,List.length_append,List.length_cons,List.length_nil]
      exact yb1 rfl
     | false =>
      have hsp:=@Nat.succ_ne_zero;repeat' (first|simp (disch:=first|exact dqb|fail) only [go_sem,↓reduceIte,hsp,r21,d0,d1,d2,d4,d15,d16,d19,d20,p0,p1,p2,p15,hltq,ld,gdbK,gfbK,← eG1,gc,gdb1,e5,← eG2,gc2,gw2,ey]|refine WP_drw ?_|refine cnd_intro (fun hsp=>?_) fun hsp=>?_)
      exact .inr (yb2 rfl)
   ·have hltq:((1:Int)<2)=True:=eq_true (by omega)
    have ld:∀ z,ldB (some (false,z)) (K[H.length]?) 0 1=some (.bool true):=fun z=>by rw [gK];rfl
    have ecut:cutO R x (2 * k+1)=(takL R w x true).map fun e=>(⟨(k:Int),(x:Int),true⟩,e):=by
     unfold cutO
     rw [show (2 * k+1) / 2=k by omega,hw,show decide ((2 * k+1) % 2=1)=true from decide_eq_true (by omega)]
    have hcs:=cutM_succ (R:=R) (x:=x) (i:=2 * k+1)
    have e5:=fun base=>run_take (base:=base) (j:=true) (DskAt.ext ⟨fv,wv,gdK,hFK,hWK⟩ (.app (t:=[cutB ⟨k,x,true⟩]) .refl)) hR hw hx
    obtain ⟨G1,eG1⟩:∃ G1,G1=K++[cutB ⟨k,x,true⟩]:=⟨_,rfl⟩
    have y1:Ext K G1:=by rw [eG1];exact .app .refl
    have gc:G1[K.length]?=some (cutB ⟨k,x,true⟩):=by rw [eG1];exact get_eq rfl
    have lG1:G1.length=K.length+1:=by rw [eG1];simp
    have gdb1:=y1.get gdbK
    rw [← eG1] at e5
    unfold cutB at eG1 gc
    cases ht:takL R w x true with
    | none =>
     rw [ht] at ecut e5
     rw [ecut] at hcs
     unfold takV at e5
     obtain ⟨G2,eG2⟩:∃ G2,G2=G1++[wayB 0 0]:=⟨_,rfl⟩
     have y2:Ext G1 G2:=by rw [eG2];exact .app .refl
     have y12:=y1.trans y2
     have lG2:G2.length=G1.length+1:=by rw [eG2];simp
     have gw2:G2[G1.length]?=some (wayB 0 0):=by rw [eG2];exact get_eq rfl
     have es:=set_id gw2
     unfold wayB at eG2 gw2 es
     have hsp:=@Nat.succ_ne_zero;repeat' (first|simp (disch:=first|exact dqb|fail) only [go_sem,↓reduceIte,hsp,r21,d0,d1,d2,d4,d15,d16,d19,d20,p0,p1,p2,p15,hltq,ld,gdbK,gfbK,← eG1,gc,gdb1,e5,← eG2,gw2,es]|refine WP_drw ?_|refine cnd_intro (fun hsp=>?_) fun hsp=>?_)
     refine ⟨agq,by omega,y12.get gK,?_⟩
     rw [hcs]
     simp only [Option.map_none,Option.toList,List.append_nil]
     exact hext hJK y12
    | some e =>
     rw [ht] at ecut e5
     have hat:=cutL_at (show 2 * k+1<2 * R.W.length by omega) ecut
     rw [ecut] at hcs
     unfold takV at e5
     obtain ⟨G2,eG2⟩:∃ G2,G2=G1++[wayB e.1 e.2]:=⟨_,rfl⟩
     have y2:Ext G1 G2:=by rw [eG2];exact .app .refl
     have y12:=y1.trans y2
     have lG2:G2.length=G1.length+1:=by rw [eG2];simp
     have gc2:=y2.get gc
     have gw2:G2[G1.length]?=some (wayB e.1 e.2):=by rw [eG2];exact get_eq rfl
     obtain ⟨b,H3,ey,ky,ly,yb1,yb2⟩:=hcb _ [cutV ⟨(k:Int),(x:Int),true⟩,wayV e] G2 (List.getElem?_eq_some_iff.1 hat).1 ⟨_,hat,rfl⟩ (hext hJK y12)
     have gK3:=ky _ _ (by omega) rfl (y12.get gK)
     unfold wayB at eG2 gw2
     unfold cutV wayV at ey
     cases b with
     | true =>
      have hsp:=@Nat.succ_ne_zero;repeat' (first|simp (disch:=first|exact dqb|fail) only [go_sem,↓reduceIte,hsp,r21,d0,d1,d2,d4,d15,d16,d19,d20,p0,p1,p2,p15,hltq,ld,gdbK,gfbK,← eG1,gc,gdb1,e5,← eG2,gc2,gw2,ey]|refine WP_drw ?_|refine cnd_intro (fun hsp=>?_) fun hsp=>?_)
      refine ⟨agq,by omega,gK3,?_⟩
      rw [hcs]
      simp only [Option.map_some,Option.toList,List.length_append,List.length_cons,List.length_nil]
      exact yb1 rfl
     | false =>
      have hsp:=@Nat.succ_ne_zero;repeat' (first|simp (disch:=first|exact dqb|fail) only [go_sem,↓reduceIte,hsp,r21,d0,d1,d2,d4,d15,d16,d19,d20,p0,p1,p2,p15,hltq,ld,gdbK,gfbK,← eG1,gc,gdb1,e5,← eG2,gc2,gw2,ey]|refine WP_drw ?_|refine cnd_intro (fun hsp=>?_) fun hsp=>?_)
      exact .inr (yb2 rfl)
  ·rintro fr2 K hA2 ⟨r21,lK,gK,hJK⟩
   have d0:=hA2 0 rfl
   have d1:=hA2 1 rfl
   have d2:=hA2 2 rfl
   have d4:=hA2 4 rfl
   have d15:=hA2 15 rfl
   have d16:=hA2 16 rfl
   have d19:=hA2 19 rfl
   have d20:=hA2 20 rfl
   try simp (disch:=first|exact dqb|fail) only [go_sem,↓reduceIte,p0,p1,p2,p15] at d0 d1 d2 d4 d15 d16 d19 d20
   have hlt2:((2:Int)<2)=False:=eq_false (by omega)
   have d16:=hA2 16 rfl
   simp (disch:=first|exact dqb|fail) only [go_sem,↓reduceIte,r16] at d16
   have hsp:=@Nat.succ_ne_zero;repeat' (first|simp (disch:=first|exact dqb|fail) only [go_sem,↓reduceIte,hsp,r21,d16,d0,d1,d2,d4,d15,d16,d19,d20,p0,p1,p2,p15,hlt2]|refine WP_drw ?_|refine cnd_intro (fun hsp=>?_) fun hsp=>?_)
   exact ⟨agq,by omega,by omega,by rw [show 2 * (k+1)=2 * k+2 by omega];exact hJK⟩
 ·rintro fr H hA ⟨r16,lH,hJ⟩
  have p0:=hA 0 rfl
  have p1:=hA 1 rfl
  have p2:=hA 2 rfl
  have p15:=hA 15 rfl
  try simp (disch:=first|exact dqb|fail) only [go_sem,↓reduceIte] at p0 p1 p2 p15
  have hlt:((R.W.length:Int)<(R.W.length:Int))=False:=eq_false (by omega)
  have hsp:=@Nat.succ_ne_zero;repeat' (first|simp (disch:=first|exact dqb|fail) only [go_sem,↓reduceIte,hsp,r16,p0,p1,p2,p15,hlt]|refine WP_drw ?_|refine cnd_intro (fun hsp=>?_) fun hsp=>?_)
  exact .inl hJ
end Go.AM
