/-
  Contracts: lists of so many numbers, one behind the other (eye.lists).
-/
import Derived.Test.YtcemgempgbjbeaaGreatU19
import Derived.Test.YtcemgempgbjbeaaGreatU18
import Derived.Test.YtcemgempgbjbeaaGreatU13
set_option linter.unusedSimpArgs false
set_option linter.unusedVariables false
namespace Go.AM
open Go.Proofs.Tryz
attribute [-go_sem] put_ne put_same
attribute [local go_sem ↓] put_if
def lexN (n:Nat):Nat→List Int→Nat→List (List Int)
 | 0,l,_=>[l]
 | d+1,l,a=>(List.range (n-a)).flatMap fun q=>lexN n d (l++[((a+q:Nat):Int)]) (a+q+1)
def lexQ (n:Nat) (d:Nat) (l:List Int) (a j:Nat):List (List Int):=(List.range j).flatMap fun q=>lexN n d (l++[((a+q:Nat):Int)]) (a+q+1)
theorem lexQ_succ {n:Nat} {l:List Int} {d a j:Nat}:lexQ n d l a (j+1)=lexQ n d l a j++lexN n d (l++[((a+j:Nat):Int)]) (a+j+1):=by simp [lexQ,List.range_succ]
theorem lexQ_pre {n:Nat} {l:List Int} {d a j:Nat}:∀ k,∃ s,lexQ n d l a (j+k)=lexQ n d l a j++s
 | 0=>⟨[],by simp⟩
 | k+1=>by
  obtain ⟨s,e⟩:=lexQ_pre (n:=n) (l:=l) (d:=d) (a:=a) (j:=j) k
  exact ⟨s++lexN n d (l++[((a+(j+k):Nat):Int)]) (a+(j+k)+1),by rw [show j+(k+1)=(j+k)+1 by omega,lexQ_succ,e,List.append_assoc]⟩
def BackY (base ob:Nat) (g:AVal) (n many:Nat) (p:List Int→Bool) (I:Option (List Int)→Heap→Prop):Prop :=
 ∀ H o sv l,base≤H.length→ob<H.length→I o H→Own encI 3 0 H sv l→Off [ob] sv→l.length=many→(∀ x ∈ l,0≤x∧x<(n:Int))→∃ H',callL prog raw base g [sv] H=some (.bool (p l),H')∧KeepX ob H H'∧I (some l) H'
def moreY (M S O R:Nat):AVal:=.fn 259 [] [.ptr (some ⟨M,0,0⟩),.ptr (some ⟨S,0,0⟩),.ptr (some ⟨O,0,0⟩),.ptr (some ⟨R,0,0⟩)]
def MoreAt (H:Heap) (ob M S O R many n:Nat) (g:AVal):Prop:=(M ≠ ob∧S ≠ ob∧O ≠ ob∧R ≠ ob)∧H[M]?=some ⟨.cells [.int .i64 (many:Int)] 3 false false,0⟩∧H[S]?=some ⟨.cells [g] 210 false false,0⟩∧H[O]?=some ⟨.cells [.int .i64 (n:Int)] 3 false false,0⟩∧H[R]?=some ⟨.cells [moreY M S O R] 111 false false,0⟩
theorem MoreAt.keep {H H':Heap} {ob M S O R many n:Nat} {g:AVal} (x:MoreAt H ob M S O R many n g) (k:KeepX ob H H'):MoreAt H' ob M S O R many n g:=by
 obtain ⟨⟨a,b,c,d⟩,x1,x2,x3,x4⟩:=x
 exact ⟨⟨a,b,c,d⟩,k.2 _ _ a x1,k.2 _ _ b x2,k.2 _ _ c x3,k.2 _ _ d x4⟩
theorem stT12 {base:Nat} {l:List Oper} {s:St} {Q:AExit→St→Prop}:WP prog raw base (.region 6 l.toArray true) s Q=WPS prog raw base (.region 6 l.toArray true) s Q:=WP_stop
attribute [local go_sem ↓ 3000] stT12
set_option maxHeartbeats 2000000 in
theorem run_moreY {base ob M S O R many n:Nat} {g:AVal} {p:List Int→Bool} {I:Option (List Int)→Heap→Prop} (hg:One g) (hcb:BackY base ob g n many p I) (hI:∀ o H H',Ext H H'→I o H→I o H') (hn:n≤1000) (hmany:many≤1000) :
  ∀ (d:Nat) {l:List Int} {a:Nat} {lv:AVal} {H:Heap} {o:Option (List Int)},l.length+d=many→base≤H.length→ob<H.length→Own encI 3 0 H lv l→Off [ob] lv→(∀ x ∈ l,0≤x∧x<(n:Int))→a≤n→I o H→MoreAt H ob M S O R many n g →
  Ret prog raw base (moreY M S O R) [lv,.int .i64 (a:Int)] H (fun v H'=>v=.bool (visF p (lexN n d l a) o).1∧KeepX ob H H'∧I (visF p (lexN n d l a) o).2 H'):=by
 intro d
 induction d with
 | zero =>
  intro l a lv H o hl hb hob hO hof hsub ha hio hM
  obtain ⟨⟨n1,n2,n3,n4⟩,m1,m2,m3,m4⟩:=hM
  have hll:=own_len hO Fc.el35 (by omega)
  have t1:((l.length:Int)=(many:Int))=True:=eq_true (by omega)
  obtain ⟨H',e1,k1,i1⟩:=hcb H o lv l hb hob hio hO hof (by omega) hsub
  have r:visF p (lexN n 0 l a) o=(p l,some l):=by
   simp only [lexN,visF]
   cases p l<;>rfl
  rw [r]
  refine ret_raw func259 rfl (by kernel_rfl) ?_
  have hsp:=@Nat.succ_ne_zero;repeat' (first|simp (disch:=first|exact dqb|fail) only [go_sem,↓reduceIte,hsp,hll,m1,t1,m2,e1]|refine WP_drw ?_|refine cnd_intro (fun hsp=>?_) fun hsp=>?_)
  exact ⟨k1,i1⟩
 | succ d ih =>
  intro l a lv H o hl hb hob hO hof hsub ha hio hM
  have hM0:=hM
  obtain ⟨⟨n1,n2,n3,n4⟩,m1,m2,m3,m4⟩:=hM
  have hll:=own_len hO Fc.el35 (by omega)
  have t1:((l.length:Int)=(many:Int))=False:=eq_false (by omega)
  refine ret_raw func259 rfl (by kernel_rfl) ?_
  have hsp:=@Nat.succ_ne_zero;repeat' (first|simp (disch:=first|exact dqb|fail) only [go_sem,↓reduceIte,hsp,hll,m1,t1]|refine WP_drw ?_|refine cnd_intro (fun hsp=>?_) fun hsp=>?_)
  refine WP_count [(8,31)] 0 (n-a) (Nat.zero_le _) (fun _ j fr h'=>fr 9=.int .i64 ((a+j:Nat):Int)∧KeepX ob H h'∧(visF p (lexQ n d l a j) o).1=false∧I (visF p (lexQ n d l a j) o).2 h') ?_ ?_ ?_
  ·exact ⟨by (simp (disch:=first|exact dqb|fail) only [go_sem,↓reduceIte,Int.natCast_zero];first|done|rfl),.refl,rfl,hio⟩
  ·rintro j fr H1 hj0 hj hA ⟨r9,xK,hv,hi1⟩
   have p0:=hA 0 rfl
   have p4:=hA 4 rfl
   have p5:=hA 5 rfl
   try simp (disch:=first|exact dqb|fail) only [go_sem,↓reduceIte] at p0 p4 p5
   have hM1:=hM0.keep xK
   obtain ⟨_,q1,q2,q3,q4⟩:=hM1
   have hlk:=xK.1
   have hO1:=xK.own hO hof
   have hlt:(((a+j:Nat):Int)<(n:Int))=True:=eq_true (by omega)
   have hsp:=@Nat.succ_ne_zero;repeat' (first|simp (disch:=first|exact dqb|fail) only [go_sem,↓reduceIte,hsp,r9,p0,p4,p5,q3,hlt]|refine WP_drw ?_|refine cnd_intro (fun hsp=>?_) fun hsp=>?_)
   refine WPS_go ?_
   have hsmall:Small l:=⟨by omega,fun y hy=>by have:=hsub y hy;omega⟩
   obtain ⟨cv,H2,e2,x2,o2⟩:=run_cloneI (base:=base) hO1 hsmall
   have hl2:=x2.len
   obtain ⟨v',H3,ea,oV,hle,hE,hV1⟩:=o2.append1 (y:=((a+j:Nat):Int)) (base:=base) (t:=35) rfl rfl Fc.el35 encI_sc (by omega) hl2 (by omega)
   have x3:Ext H1 H3:=hE H1 (Nat.le_refl _) x2
   have hl3:=x3.len
   have k3:KeepX ob H1 H3:=.ofExt x3
   have hs2:∀ y ∈ l++[((a+j:Nat):Int)],0≤y∧y<(n:Int):=fun y hy=>by
    rcases List.mem_append.1 hy with q|q
    ·exact hsub y q
    ·simp only [List.mem_singleton] at q;omega
   obtain ⟨rv,H4,e4,rfl,k4,i4⟩:=ih (l:=l++[((a+j:Nat):Int)]) (a:=a+j+1) (lv:=v') (H:=H3) (o:=(visF p (lexQ n d l a j) o).2) (by simp;omega) (by omega) (by omega) (oV.low (Nat.zero_le _)) (oV.off (fun i hi=>by simp at hi;omega)) hs2 (by omega) (hI _ _ _ x3 hi1) ((hM0.keep xK).keep k3)
   have hjj:(((a+j:Nat):Int)+1)=((a+j+1:Nat):Int):=by omega
   have g42:=x2.get q4
   have g43:=x3.get q4
   have hlow1:refsLow H1.length (moreY M S O R):=by
    have a1:=lt_of_get q1
    have a2:=lt_of_get q2
    have a3:=lt_of_get q3
    have a4:=lt_of_get q4
    simp [refsLow,moreY,AVal.refs,refsL,a1,a2,a3,a4]
   have hsp:=visF_app (p:=p) (a:=lexQ n d l a j) (b:=lexN n d (l++[((a+j:Nat):Int)]) (a+j+1)) (o:=o)
   rw [← lexQ_succ,if_neg (by simp [hv])] at hsp
   rw [← hsp] at e4 i4
   obtain ⟨res,eres⟩:∃ res,res=visF p (lexQ n d l a (j+1)) o:=⟨_,rfl⟩
   rw [← eres] at e4 i4 ⊢
   refine WP_wild [⟨0,111,5,⟨R,0,0⟩,moreY M S O R,8⟩] (by kernel_rfl) (by kernel_rfl) (by kernel_rfl) ⟨hlow1,trivial⟩ fun K hK=>?_
   iterate 9
    rw [TRS_cons]
    refine ⟨by first|(simp (disch:=first|exact dqb|fail) only [go_sem,↓reduceIte,r9,p0,p4,p5,q4,g42,g43,e2,ea,hjj,e4,ldsQ_cons,ldsQ_nil,grdQ_cons,grdQ_nil,if_true,Nat.reduceLeDiff];done)|exact trivial,?_⟩
    simp (disch:=first|exact dqb|fail) only [go_sem,↓reduceIte,r9,p0,p4,p5,q4,g42,g43,e2,ea,hjj,e4]
   rw [TRS_nil]
   refine ⟨by first|(simp (disch:=first|exact dqb|fail) only [go_sem,↓reduceIte,r9,p0,p4,p5,q4,g42,g43,e2,ea,hjj,e4,ldsQ_cons,ldsQ_nil,grdQ_cons,grdQ_nil,if_true,Nat.reduceLeDiff];done)|exact trivial,?_⟩
   subst hK
   have hkf:KeepX ob H H4:=(xK.trans k3).trans k4
   cases hres:res.1 with
   | true =>
    have hwh:visF p (lexN n (d+1) l a) o=res:=by
     obtain ⟨s,e⟩:=lexQ_pre (n:=n) (l:=l) (d:=d) (a:=a) (j:=j+1) (n-a-(j+1))
     rw [show j+1+(n-a-(j+1))=n-a by omega] at e
     show visF p (lexQ n d l a (n-a)) o=res
     rw [e,visF_app,if_pos (by rw [← eres];exact hres),eres]
    have hsp:=@Nat.succ_ne_zero;repeat' (first|simp (disch:=first|exact dqb|fail) only [go_sem,↓reduceIte,hsp,p0,p4,p5,hres]|refine WP_drw ?_|refine cnd_intro (fun hsp=>?_) fun hsp=>?_)
    rw [hwh]
    exact ⟨by rw [hres],hkf,i4⟩
   | false =>
    have hsp:=@Nat.succ_ne_zero;repeat' (first|simp (disch:=first|exact dqb|fail) only [go_sem,↓reduceIte,hsp,r9,p0,p4,p5,hres]|refine WP_drw ?_|refine cnd_intro (fun hsp=>?_) fun hsp=>?_)
    exact ⟨agq,by first|rfl|omega,hkf,i4⟩
  ·rintro fr H1 hA ⟨r9,xK,hv,hi1⟩
   have p0:=hA 0 rfl
   have p4:=hA 4 rfl
   have p5:=hA 5 rfl
   try simp (disch:=first|exact dqb|fail) only [go_sem,↓reduceIte] at p0 p4 p5
   have hM1:=hM0.keep xK
   obtain ⟨_,q1,q2,q3,q4⟩:=hM1
   have hlt:(((a+(n-a):Nat):Int)<(n:Int))=False:=eq_false (by omega)
   have hsp:=@Nat.succ_ne_zero;repeat' (first|simp (disch:=first|exact dqb|fail) only [go_sem,↓reduceIte,hsp,r9,p0,p4,p5,q3,hlt]|refine WP_drw ?_|refine cnd_intro (fun hsp=>?_) fun hsp=>?_)
   refine ⟨?_,xK,hi1⟩
   show _=AVal.bool (visF p (lexQ n d l a (n-a)) o).1
   rw [hv]
theorem run_listsY {base ob many n:Nat} {h:Heap} {g:AVal} {p:List Int→Bool} {I:Option (List Int)→Heap→Prop} {o:Option (List Int)} (hb:base≤h.length) (hob:ob<h.length) (hg:One g) (hcb:BackY base ob g n many p I) (hI:∀ o H H',Ext H H'→I o H→I o H') (hn:n≤1000) (hmany:many≤1000) (hio:I o h) :
  Ret prog raw base (.fn 207 [] []) [.int .i64 (many:Int),.int .i64 (n:Int),g] h (fun v H'=>v=.bool (visF p (lexN n many [] 0) o).1∧KeepX ob h H'∧I (visF p (lexN n many [] 0) o).2 H'):=by
 obtain ⟨h2,eh2⟩:∃ h2:Heap,h2=h++[⟨.cells [.int .i64 (many:Int)] 3 false false,0⟩]++[⟨.cells [.int .i64 (n:Int)] 3 false false,0⟩]++[⟨.cells [g] 210 false false,0⟩]++[⟨.cells [moreY h.length (h.length+1+1) (h.length+1) (h.length+1+1+1)] 111 false false,0⟩]:=⟨_,rfl⟩
 have xh:Ext h h2:=by rw [eh2];exact .app (.app (.app (.app .refl)))
 have hl2:=xh.len
 have hM:MoreAt h2 ob h.length (h.length+1+1) (h.length+1) (h.length+1+1+1) many n g:=by
  rw [eh2]
  exact ⟨⟨by omega,by omega,by omega,by omega⟩,get_app (get_app (get_app (get_eq rfl))),get_app (get_eq (by simp)),get_app (get_app (get_eq (by simp))),get_eq (by simp)⟩
 obtain ⟨v1,H1,e1,rfl,k1,i1⟩:=run_moreY hg hcb hI hn hmany many (l:=[]) (a:=0) (lv:=.slice none 0 0) (H:=h2) (o:=o) (by simp) (by omega) (by omega) Own.nil (fun r n c q=>by cases q) (fun x hx=>by cases hx) (Nat.zero_le _) (hI _ _ _ xh hio) hM
 rw [eh2,Int.natCast_zero] at e1
 unfold moreY at e1
 refine ret_raw func207 rfl (by kernel_rfl) ?_
 have hsp:=@Nat.succ_ne_zero;repeat' (first|simp (disch:=first|exact dqb|fail) only [go_sem,↓reduceIte,hsp,e1]|refine WP_drw ?_|refine cnd_intro (fun hsp=>?_) fun hsp=>?_)
 exact ⟨(KeepX.ofExt xh).trans k1,i1⟩
end Go.AM
namespace Go.AM
open Go.Proofs.Tryz
attribute [-go_sem] put_ne put_same
attribute [local go_sem ↓] put_if
def OutY (h0:Heap) (ob:Nat) (o:Option (List Int)) (H:Heap):Prop:=h0.length≤ob∧Ext h0 H∧∃ sv,H[ob]?=some ⟨.cells [sv] 35 false false,0⟩∧Own encI 3 0 H sv (o.getD [])∧Off [ob] sv
theorem OutY.ext {h0 H H':Heap} {ob:Nat} {o:Option (List Int)} (x:OutY h0 ob o H) (e:Ext H H'):OutY h0 ob o H':=by
 obtain ⟨a,b,sv,c,d,f⟩:=x
 exact ⟨a,b.trans e,sv,e.get c,d.ext e,f⟩
def strB (T:EyT) (l:List Int):Bool:=l.all fun a=>l.all fun b=>decide (a=b) || !mtB T a.toNat b.toNat
abbrev bdB (g:AVal):ABlk:=⟨.cells [g] 272 false false,0⟩
def Tog (h:Heap) (g:AVal) (n:Nat) (t:Int→Int→Bool):Prop:=One g∧∀ base K a b,Ext h K→0≤a∧a<(n:Int)→0≤b∧b<(n:Int)→callL prog raw base g [.int .i64 a,.int .i64 b] K=some (.bool (t a b),K)
theorem Tog.ext {h H:Heap} {g:AVal} {n:Nat} {t:Int→Int→Bool} (x:Tog h g n t) (e:Ext h H):Tog H g n t:=⟨x.1,fun base K a b y=>x.2 base K a b (e.trans y)⟩
theorem run_most3 {base ab bb n:Nat} {h:Heap} {g:AVal} {a b:Int} {t:Int→Int→Bool} (hT:Tog h g n t) (ha:h[ab]?=some ⟨.cells [.int .i64 a] 3 false false,0⟩) (hb:h[bb]?=some (bdB g)) (h1:0≤a∧a<(n:Int)) (h2:0≤b∧b<(n:Int)) :
  callL prog raw base (.fn 210 [] [.ptr (some ⟨ab,0,0⟩),.ptr (some ⟨bb,0,0⟩)]) [.int .i64 b] h=some (.bool (decide (a=b) || t a b),h):=by
 have hc:=fun base=>hT.2 base h a b .refl h1 h2
 have lb:=lt_of_get hb
 by_cases c:a=b
 ·have t1:(a=b)=True:=eq_true c
  refine callL_run func210 rfl rfl ?_
  have hsp:=@Nat.succ_ne_zero;repeat' (first|simp (disch:=first|exact dqb|fail) only [go_sem,↓reduceIte,hsp,ha,hb,t1]|refine WP_drw ?_|refine cnd_intro (fun hsp=>?_) fun hsp=>?_)
  exact fB (by simp [c])
 ·have t1:(a=b)=False:=eq_false c
  refine callL_run func210 rfl rfl ?_
  have hsp:=@Nat.succ_ne_zero;repeat' (first|simp (disch:=first|exact dqb|fail) only [go_sem,↓reduceIte,hsp,ha,hb,t1,hc]|refine WP_drw ?_|refine cnd_intro (fun hsp=>?_) fun hsp=>?_)
  exact fB (by simp [c])
theorem run_most2 {base lb bb n:Nat} {h:Heap} {g v:AVal} {a:Int} {l:List Int} {t:Int→Int→Bool} (hT:Tog h g n t) (hl:h[lb]?=some ⟨.cells [v] 35 false false,0⟩) (hb:h[bb]?=some (bdB g)) (hI:Ints h v l) (h1:0≤a∧a<(n:Int)) (hs:∀ x ∈ l,0≤x∧x<(n:Int)) :
  callL prog raw base (.fn 209 [] [.ptr (some ⟨lb,0,0⟩),.ptr (some ⟨bb,0,0⟩)]) [.int .i64 a] h=some (.bool (l.all fun b=>decide (a=b) || t a b),h):=by
 obtain ⟨G,eG⟩:∃ G,G=h++[(⟨.cells [.int .i64 a] 3 false false,0⟩:ABlk)]:=⟨_,rfl⟩
 have xG:Ext h G:=by rw [eG];exact .app .refl
 have ga:G[h.length]?=some ⟨.cells [.int .i64 a] 3 false false,0⟩:=by rw [eG];exact get_eq rfl
 have gl:=xG.get hl
 have gb:=xG.get hb
 have ov:=hI.one
 have ev:=fun base=>every_YI (base:=base) (g:=.fn 210 [] [.ptr (some ⟨h.length,0,0⟩),.ptr (some ⟨bb,0,0⟩)]) (fun b=>decide (a=b) || t a b) (hI.ext xG) (fun base T x hx=>run_most3 (hT.ext (xG.trans (.app .refl))) (get_app ga) (get_app gb) h1 (hs x hx)) ⟨rfl,rfl,rfl⟩
 refine callL_run func209 rfl rfl ?_
 have hsp:=@Nat.succ_ne_zero;repeat' (first|simp (disch:=first|exact dqb|fail) only [go_sem,↓reduceIte,hsp,← eG,gl,ev]|refine WP_drw ?_|refine cnd_intro (fun hsp=>?_) fun hsp=>?_)
 exact fB rfl xG
def Hol (g:AVal):Prop:=One g∧∀ base K v,One v→callL prog raw base g [v] K=some (.bool true,K)
theorem back_most {base ob hb bb n many:Nat} {h0:Heap} {g hv:AVal} {t:Int→Int→Bool} (h0b:base≤h0.length) (hT:Tog h0 g n t) (hH:Hol hv) (gh:h0[hb]?=some ⟨.cells [hv] 210 false false,0⟩) (gb:h0[bb]?=some (bdB g)) (hn:many≤1000) (hn2:n≤1000) :
  BackY base ob (.fn 208 [] [.ptr (some ⟨ob,0,0⟩),.ptr (some ⟨hb,0,0⟩),.ptr (some ⟨bb,0,0⟩)]) n many (fun l=>l.all fun a=>l.all fun b=>decide (a=b) || t a b) (OutY h0 ob):=by
 rintro H o sl l hbH hobH ⟨hh,xh,sv0,go,_,_⟩ hO hof hlen hsub
 have hone:=hO.one
 obtain ⟨o1,hH⟩:=hH
 have n1:hb ≠ ob:=by have:=lt_of_get gh;omega
 have n2:bb ≠ ob:=by have:=lt_of_get gb;omega
 obtain ⟨K,eK⟩:∃ K,K=H++[(⟨.cells [sl] 35 false false,0⟩:ABlk)]:=⟨_,rfl⟩
 have xK:Ext H K:=by rw [eK];exact .app .refl
 have lK:K.length=H.length+1:=by rw [eK];simp
 have kl:K[H.length]?=some ⟨.cells [sl] 35 false false,0⟩:=by rw [eK];exact get_eq rfl
 have ko:=xK.get go
 obtain ⟨K2,eK2⟩:∃ K2,K2=K.set ob ⟨.cells [sl] 35 false false,0⟩:=⟨_,rfl⟩
 have l2:K2.length=K.length:=by rw [eK2,List.length_set]
 have k2l:K2[H.length]?=some ⟨.cells [sl] 35 false false,0⟩:=by rw [eK2,List.getElem?_set_ne (by omega)];exact kl
 have k2o:K2[ob]?=some ⟨.cells [sl] 35 false false,0⟩:=by rw [eK2,List.getElem?_set_self (by omega)]
 have k2h:K2[hb]?=some ⟨.cells [hv] 210 false false,0⟩:=by rw [eK2,List.getElem?_set_ne (by omega)];exact xK.get (xh.get gh)
 have k2b:K2[bb]?=some (bdB g):=by rw [eK2,List.getElem?_set_ne (by omega)];exact xK.get (xh.get gb)
 have x2:Ext h0 K2:=by rw [eK2];exact (xh.trans xK).set hh
 have o2:Own encI 3 0 K2 sl l:=by rw [eK2];exact (hO.ext xK).setOff hof (by simp)
 have i2:Ints K2 sl l:=(o2.rows (by omega)).ints fun x hx=>by have:=hsub x hx;omega
 have hc:=fun base=>hH base K2 sl hone
 have ev:=fun base=>every_YI (base:=base) (g:=.fn 209 [] [.ptr (some ⟨H.length,0,0⟩),.ptr (some ⟨bb,0,0⟩)]) (fun a=>l.all fun b=>decide (a=b) || t a b) i2 (fun base T x hx=>run_most2 ((hT.ext x2).ext (.app .refl)) (get_app k2l) (get_app k2b) (i2.ext (.app .refl)) (hsub x hx) hsub) ⟨rfl,rfl,rfl⟩
 refine ⟨K2,callL_raw func208 rfl (by kernel_rfl) ?_,(KeepX.ofExt xK).trans (by rw [eK2];exact KeepX.refl.set),hh,x2,sl,k2o,o2,hof⟩
 have hsp:=@Nat.succ_ne_zero;repeat' (first|simp (disch:=first|exact dqb|fail) only [go_sem,↓reduceIte,hsp,← eK,kl,ko,← eK2,k2h,k2l,hc,ev]|refine WP_drw ?_|refine cnd_intro (fun hsp=>?_) fun hsp=>?_)
end Go.AM
namespace Go.AM
open Go.Proofs.Tryz
attribute [-go_sem] put_ne put_same
attribute [local go_sem ↓] put_if
def mstY (n:Nat) (p:List Int→Bool):Nat→Option (List Int)→List Int
 | 0,_=>[]
 | m+1,o=>if (visF p (lexN n (m+1) [] 0) o).1=true then (visF p (lexN n (m+1) [] 0) o).2.getD [] else mstY n p m (visF p (lexN n (m+1) [] 0) o).2
set_option maxHeartbeats 1000000 in
theorem run_mostY {base id:Nat} {h:Heap} {T:EyT} {g hv:AVal} {t:Int→Int→Bool} (hb:base≤h.length) (hD:EDk h id T) (hn:T.P.length≤9) (hT:Tog h g T.P.length t) (hH:Hol hv) :
  Ret prog raw base (.fn 138 [] []) [.ptr (some ⟨id,0,0⟩),.agg [g],hv] h (fun w H=>Ext h H∧Own encI 3 0 H w (mstY T.P.length (fun l=>l.all fun a=>l.all fun b=>decide (a=b) || t a b) T.P.length none)):=by
 obtain ⟨p,ep⟩:∃ p:List Int→Bool,p=(fun l=>l.all fun a=>l.all fun b=>decide (a=b) || t a b):=⟨_,rfl⟩
 rw [← ep]
 have og:=hT.1
 have oh:=hH.1
 obtain ⟨G,eG⟩:∃ G,G=h++[bdB g]++[(⟨.cells [hv] 210 false false,0⟩:ABlk)]:=⟨_,rfl⟩
 have xG:Ext h G:=by rw [eG];exact .app (.app .refl)
 have lG:G.length=h.length+2:=by rw [eG];simp
 have g0:G[h.length]?=some (bdB g):=by rw [eG];exact get_app (get_eq rfl)
 have g1:G[h.length+1]?=some ⟨.cells [hv] 210 false false,0⟩:=by rw [eG];exact get_eq (by simp)
 obtain ⟨G2,eG2⟩:∃ G2,G2=G++[(⟨.cells [.slice none 0 0] 35 false false,0⟩:ABlk)]:=⟨_,rfl⟩
 have x2:Ext G G2:=by rw [eG2];exact .app .refl
 have l2:G2.length=h.length+3:=by rw [eG2];simp [lG]
 have k2:G2[G.length]?=some ⟨.cells [.slice none 0 0] 35 false false,0⟩:=by rw [eG2];exact get_eq rfl
 have hD2:=hD.ext (xG.trans x2)
 obtain ⟨ev,lv,pv,gi,_,_,hP⟩:=hD2
 have op:=hP.one
 have nP:=hP.len (P:=prog) Fc.el25
 refine ret_raw func138 rfl (by kernel_rfl) ?_
 have hsp:=@Nat.succ_ne_zero;repeat' (first|simp (disch:=first|exact dqb|fail) only [go_sem,↓reduceIte,hsp,← eG,← eG2,gi,nP]|refine WP_drw ?_|refine cnd_intro (fun hsp=>?_) fun hsp=>?_)
 obtain ⟨N,eN⟩:∃ N,N=T.P.length:=⟨_,rfl⟩
 refine WP_count [(6,6),(8,28)] 0 N (Nat.zero_le _) (fun _ j fr h'=>fr 8=.int .i64 ((N-j:Nat):Int)∧∃ o,OutY G G.length o h'∧mstY N p N none=mstY N p (N-j) o) ?_ ?_ ?_
 ·exact ⟨by rw [eN];(simp (disch:=first|exact dqb|fail) only [go_sem,↓reduceIte,Int.natCast_zero];first|done|rfl),none,⟨Nat.le_refl _,x2,_,k2,Own.nil,fun r n c q=>by cases q⟩,rfl⟩
 ·rintro j fr H hj0 hj hA ⟨r8,o,hO,hm⟩
  have u0:=hA 0 rfl
  have u4:=hA 4 rfl
  have u5:=hA 5 rfl
  have u7:=hA 7 rfl
  try simp (disch:=first|exact dqb|fail) only [go_sem,↓reduceIte] at u0 u4 u5 u7
  have xH:=hO.2.1
  have lH:G.length<H.length:=by obtain ⟨_,_,_,q,_⟩:=hO;exact lt_of_get q
  obtain ⟨ev2,lv2,pv2,gi2,_,_,hP2⟩:=hD.ext (xG.trans xH)
  have op2:=hP2.one
  have nP2:=hP2.len (P:=prog) Fc.el25
  rw [← eN] at nP2
  have t0:(((N-j:Nat):Int) > 0)=True:=eq_true (by omega)
  have bk:=back_most (base:=base) (ob:=G.length) (many:=N-j) (n:=N) (h0:=G) (by omega) (by rw [eN];exact hT.ext xG) hH g1 g0 (by omega) (by omega)
  rw [← ep] at bk
  obtain ⟨w,H3,e3,rfl,k3,o3⟩:=run_listsY (base:=base) (h:=H) (o:=o) (by omega) lH ⟨rfl,rfl,rfl⟩ bk (fun o H H' e x=>x.ext e) (by omega) (by omega) hO
  have hgo:mstY N p (N-j) o=if (visF p (lexN N (N-j) [] 0) o).1=true then (visF p (lexN N (N-j) [] 0) o).2.getD [] else mstY N p (N-(j+1)) (visF p (lexN N (N-j) [] 0) o).2:=by
   rw [show N-j=(N-(j+1))+1 by omega];rfl
  have o3':=o3
  obtain ⟨_,x3,sv,go,oS,_⟩:=o3'
  have os:=oS.one
  cases hres:(visF p (lexN N (N-j) [] 0) o).1 with
  | true =>
   rw [hres] at e3
   rw [if_pos hres] at hgo
   have hsp:=@Nat.succ_ne_zero;repeat' (first|simp (disch:=first|exact dqb|fail) only [go_sem,↓reduceIte,hsp,r8,u0,u4,u5,u7,t0,gi2,nP2,e3,go]|refine WP_drw ?_|refine cnd_intro (fun hsp=>?_) fun hsp=>?_)
   rw [← eN,hm,hgo]
   exact ⟨xG.trans x3,oS⟩
  | false =>
   rw [hres] at e3
   rw [if_neg (by rw [hres];simp)] at hgo
   have hsp:=@Nat.succ_ne_zero;repeat' (first|simp (disch:=first|exact dqb|fail) only [go_sem,↓reduceIte,hsp,r8,u0,u4,u5,u7,t0,gi2,nP2,e3]|refine WP_drw ?_|refine cnd_intro (fun hsp=>?_) fun hsp=>?_)
   exact ⟨agq,by omega,_,o3,by rw [hm,hgo]⟩
 ·rintro fr H hA ⟨r8,o,hO,hm⟩
  have u0:=hA 0 rfl
  have u4:=hA 4 rfl
  have u5:=hA 5 rfl
  have u7:=hA 7 rfl
  try simp (disch:=first|exact dqb|fail) only [go_sem,↓reduceIte] at u0 u4 u5 u7
  rw [Nat.sub_self] at r8 hm
  rw [Int.natCast_zero] at r8
  have t0:((0:Int) > 0)=False:=eq_false (by omega)
  have hsp:=@Nat.succ_ne_zero;repeat' (first|simp (disch:=first|exact dqb|fail) only [go_sem,↓reduceIte,hsp,r8,u0,u4,u5,u7,t0]|refine WP_drw ?_|refine cnd_intro (fun hsp=>?_) fun hsp=>?_)
  rw [← eN,hm]
  exact ⟨xG.trans hO.2.1,Own.nil⟩
def strE (T:EyT):List Int:=mstY T.P.length (strB T) T.P.length none
theorem run_str1 {base id pb:Nat} {h:Heap} {T:EyT} {a b:Int} (hD:EDk h id T) (ok:TOk T) (hp:h[pb]?=some (pE id)) (ha:0≤a∧a<(T.P.length:Int)) (hb:0≤b∧b<(T.P.length:Int)) :
  callL prog raw base (.fn 139 [] [.ptr (some ⟨pb,0,0⟩)]) [.int .i64 a,.int .i64 b] h=some (.bool (!mtB T a.toNat b.toNat),h):=by
 obtain ⟨i,rfl⟩:=Int.eq_ofNat_of_zero_le ha.1
 obtain ⟨k,rfl⟩:=Int.eq_ofNat_of_zero_le hb.1
 have hc:=fun base=>run_match (base:=base) (i:=i) (k:=k) hD ok (by omega) (by omega)
 rw [Int.toNat_natCast,Int.toNat_natCast]
 refine callL_run func139 rfl rfl ?_
 have hsp:=@Nat.succ_ne_zero;repeat' (first|simp (disch:=first|exact dqb|fail) only [go_sem,↓reduceIte,hsp,hp,hc]|refine WP_drw ?_|refine cnd_intro (fun hsp=>?_) fun hsp=>?_)
 exact fB rfl
theorem run_str2 {base:Nat} {h:Heap} {v:AVal}:callL prog raw base (.fn 140 [] []) [v] h=some (.bool true,h):=by
 refine callL_run func140 rfl rfl ?_
 have hsp:=@Nat.succ_ne_zero;repeat' (first|simp (disch:=first|exact dqb|fail) only [go_sem,↓reduceIte,hsp]|refine WP_drw ?_|refine cnd_intro (fun hsp=>?_) fun hsp=>?_)
 exact fB rfl
theorem run_Strangers {base:Nat} {h:Heap} {v:AVal} {T:EyT} (hb:base≤h.length) (hT:TblAt h v T) (ok:TOk T) :
  Ret prog raw base (.fn 52 [] []) [v] h (fun w H=>Ext h H∧∃ x,w=.tuple [x,.int .i64 0]∧Own encI 3 0 H x (strE T)):=by
 obtain ⟨G,eG⟩:∃ G,G=h++[⟨.cells (match v with|.agg l=>l|_=>[]) 27 false false,0⟩]:=⟨_,rfl⟩
 have hT':=hT
 obtain ⟨ev,lv,pv,rfl,hE,hL,hP⟩:=hT'
 have o1:=hE.one
 have o2:=hL.one
 have o3:=hP.one
 simp only at eG
 have xG:Ext h G:=by rw [eG];exact .app .refl
 have g0:G[h.length]?=some (tbB ev lv pv):=by rw [eG];exact get_eq rfl
 have lG:G.length=h.length+1:=by rw [eG];simp
 obtain ⟨w1,H1,e1,x1,id,rfl,hD,hid⟩:=run_yopened (base:=base) (h:=G) (by omega) (hT.ext xG) ok
 have l1:=x1.len
 obtain ⟨G2,eG2⟩:∃ G2,G2=H1++[pE id]:=⟨_,rfl⟩
 have x2:Ext H1 G2:=by rw [eG2];exact .app .refl
 have gp:G2[H1.length]?=some (pE id):=by rw [eG2];exact get_eq rfl
 have l2:G2.length=H1.length+1:=by rw [eG2];simp
 have tg:Tog G2 (.fn 139 [] [.ptr (some ⟨H1.length,0,0⟩)]) T.P.length (fun a b=>!mtB T a.toNat b.toNat):=⟨⟨rfl,rfl,rfl⟩,fun base K a b e ha hb=>run_str1 ((hD.ext x2).ext e) ok (e.get gp) ha hb⟩
 obtain ⟨w3,H3,e3,x3,o4⟩:=run_mostY (base:=base) (h:=G2) (hv:=.fn 140 [] []) (by omega) (hD.ext x2) ok.nP tg ⟨⟨rfl,rfl,rfl⟩,fun base K v _=>run_str2⟩
 have ow:=o4.one
 refine ret_raw func52 rfl (by kernel_rfl) ?_
 have hsp:=@Nat.succ_ne_zero;repeat' (first|simp (disch:=first|exact dqb|fail) only [go_sem,↓reduceIte,hsp,← eG,g0,e1,← eG2,gp,e3]|refine WP_drw ?_|refine cnd_intro (fun hsp=>?_) fun hsp=>?_)
 exact ⟨xG.trans (x1.trans (x2.trans x3)),w3,rfl,o4⟩
theorem two_str:strE twoT=[0,2,3]:=by decide +kernel
end Go.AM
namespace Go.AM
open Go.Proofs.Tryz
attribute [-go_sem] put_ne put_same
attribute [local go_sem ↓] put_if
theorem two_six {lit:Bool} {H:Heap} (hl:lit=false):bsA prog lit H 35 6 [(0,.int .i64 1),(1,.int .i64 2),(2,.int .i64 4),(3,.int .i64 8),(4,.int .i64 1),(5,.int .i64 2)]=some (.slice (some ⟨H.length,0,0⟩) 6 6,H++[rowB [1,2,4,8,1,2] 0]):=by
 subst hl
 simp [bsA,rowOf,Fc.el35,fillA,repCells,AVal.isN,AVal.cells,splice,rowB,ints]
theorem bs_023 {lit:Bool} {H:Heap} (hl:lit=false):bsA prog lit H 35 3 [(0,.int .i64 0),(1,.int .i64 2),(2,.int .i64 3)]=some (.slice (some ⟨H.length,0,0⟩) 3 3,H++[rowB [0,2,3] 0]):=by
 subst hl
 simp [bsA,rowOf,Fc.el35,fillA,repCells,AVal.isN,AVal.cells,splice,rowB,ints]
theorem RibAt.one' {h:Heap} {v:AVal} {R:Rib} (x:RibAt h v R):∃ a b c,v=.agg [a,b,c]∧One a∧One b∧One c:=by
 obtain ⟨fv,wv,rfl,a,b⟩:=x
 exact ⟨_,fv,wv,rfl,⟨rfl,rfl,rfl⟩,a.one,b.one⟩
theorem TblAt.one' {h:Heap} {v:AVal} {T:EyT} (x:TblAt h v T):∃ a b c,v=.agg [a,b,c]∧One a∧One b∧One c:=by
 obtain ⟨ev,lv,pv,rfl,a,b,c⟩:=x
 exact ⟨ev,lv,pv,rfl,a.one,b.one,c.one⟩
set_option maxHeartbeats 1000000 in
theorem run_awake08 {base:Nat} {h:Heap}:callL prog raw base (.fn 13 [] []) [] h=some (.bool true,h):=by
 obtain ⟨G1,eG1⟩:∃ G1,G1=h++[rowB [1,2,4,8,1,2] 0]:=⟨_,rfl⟩
 have x1:Ext h G1:=by rw [eG1];exact .app .refl
 have b1:=fun lit (hl:lit=false)=>two_six (lit:=lit) (H:=h) hl
 rw [← eG1] at b1
 have i1:Ints G1 (.slice (some ⟨h.length,0,0⟩) 6 6) [1,2,4,8,1,2]:=by rw [eG1];exact slice_row rfl rfl ⟨by simp,by decide⟩
 obtain ⟨k,s,c,hc,e2⟩:=L3.run_FewestC (base:=h.length) i1 pap8
 rw [few8] at hc
 obtain rfl:c=1:=by omega
 clear hc
 obtain ⟨G2,eG2⟩:∃ G2,G2=G1++[rowB (([1,2,4,8,1,2]:List Int).take 1) 0]:=⟨_,rfl⟩
 rw [← eG2] at e2
 have x2:Ext G1 G2:=by rw [eG2];exact .app .refl
 have e2:callL prog raw h.length (.fn 51 [] []) [.agg [.int .i64 4,.slice (some ⟨h.length,0,0⟩) 6 6]] G1=some (.tuple [.agg [.int .i64 4,.slice (some ⟨G1.length,0,0⟩) 1 1,.int .i64 k,.int .i64 s],.int .i64 0],G2):=e2
 obtain ⟨G3,eG3⟩:∃ G3,G3=G2++[L3.chB 4 (.slice (some ⟨G1.length,0,0⟩) 1 1) k s]:=⟨_,rfl⟩
 have x3:Ext G2 G3:=by rw [eG3];exact .app .refl
 have g3:G3[G2.length]?=some (L3.chB 4 (.slice (some ⟨G1.length,0,0⟩) 1 1) k s):=by rw [eG3];exact get_eq rfl
 have n1:=x1.len
 have n2:=x2.len
 have n3:=x3.len
 obtain ⟨w4,H4,e4,x4,tT⟩:=run_Two (base:=h.length) (h:=G3) (by omega)
 have n4:=x4.len
 obtain ⟨w5,H5,e5,x5,l5,rfl,o5⟩:=run_Strangers (base:=h.length) (by omega) tT two_ok
 rw [two_str] at o5
 have n5:=x5.len
 obtain ⟨w6,H6,e6,x6,tR⟩:=run_Ten (base:=h.length) (h:=H5) (by omega)
 have n6:=x6.len
 obtain ⟨w7,H7,e7,x7,u7,rfl,o7⟩:=run_Best (base:=h.length) (by omega) tR (by decide)
 rw [ten_all,ten_chk] at e7
 have o7:=o7.one
 obtain ⟨a1,a2,a3,rfl,c1,c2,c3⟩:=tR.one'
 obtain ⟨a4,a5,a6,rfl,c4,c5,c6⟩:=tT.one'
 have x37:Ext G3 H7:=x4.trans (x5.trans (x6.trans x7))
 have g37:=x37.get g3
 obtain ⟨H8,eH8⟩:∃ H8,H8=H7++[rowB [0,2,3] 0]:=⟨_,rfl⟩
 have x8:Ext H7 H8:=by rw [eH8];exact .app .refl
 have b8:=fun lit (hl:lit=false)=>bs_023 (lit:=lit) (H:=H7) hl
 rw [← eH8] at b8
 have i5:Ints H8 l5 [0,2,3]:=(own_ints o5 ⟨by simp,by decide⟩).ext (x6.trans (x7.trans x8))
 have i8:Ints H8 (.slice (some ⟨H7.length,0,0⟩) 3 3) [0,2,3]:=by rw [eH8];exact slice_row rfl rfl ⟨by simp,by decide⟩
 have eq:=fun base=>run_eqI (base:=base) i5 i8
 rw [decide_eq_true rfl] at eq
 have o5:=o5.one
 unfold L3.chB at eG3 g37
 refine callL_run func13 rfl rfl ?_
 have hsp:=@Nat.succ_ne_zero;repeat' (first|simp (disch:=first|exact dqb|fail) only [go_sem,↓reduceIte,hsp,b1,e2,← eG3,e4,e5,e6,e7,g37,b8,eq]|refine WP_drw ?_|refine cnd_intro (fun hsp=>?_) fun hsp=>?_)
 exact fB rfl (x1.trans (x2.trans (x3.trans (x37.trans x8))))
end Go.AM
namespace Go.AM
def flt (m k n:Nat):List Int:=((List.range n).filter fun t=>decide (t % m=k)).map fun t:Nat=>(t:Int)
theorem flt_zero {m k:Nat}:flt m k 0=[]:=rfl
theorem flt_hit {m k n:Nat} (h:n % m=k):flt m k (n+1)=flt m k n++[(n:Int)]:=by
 unfold flt
 rw [List.range_succ,List.filter_append,List.map_append]
 simp [h]
theorem flt_miss {m k n:Nat} (h:¬ n % m=k):flt m k (n+1)=flt m k n:=by
 unfold flt
 rw [List.range_succ,List.filter_append,List.map_append]
 simp [h]
theorem flt_len {m k n:Nat}:(flt m k n).length≤n:=by
 unfold flt
 rw [List.length_map]
 exact Nat.le_trans (List.length_filter_le _ _) (by simp)
theorem flt_mem {m k n:Nat} {x:Int}:x ∈ flt m k n ↔ ∃ t:Nat,t<n∧t % m=k∧x=(t:Int):=by
 unfold flt
 simp only [List.mem_map,List.mem_filter,List.mem_range,decide_eq_true_eq]
 exact ⟨fun ⟨t,h,e⟩=>⟨t,h.1,h.2,e.symm⟩,fun ⟨t,h1,h2,e⟩=>⟨t,⟨h1,h2⟩,e.symm⟩⟩
theorem flt_rise {m k:Nat}:∀ n,(flt m k n).Pairwise (·<·)
 | 0=>.nil
 | n+1=>by
  by_cases h:n % m=k
  ·rw [flt_hit h,List.pairwise_append]
   refine ⟨flt_rise n,by simp,fun x hx y hy=>?_⟩
   obtain ⟨t,h1,_,rfl⟩:=flt_mem.1 hx
   rw [List.mem_singleton] at hy
   omega
  ·rw [flt_miss h];exact flt_rise n
structure CleanW (W:List Wnt):Prop where
 n:W.length≤6
 ok:∀ w ∈ W,WntOk w
 cl:∀ w ∈ W,w.fl=0∧w.jn=0
theorem CleanW.rib {W:List Wnt} (h:CleanW W) {m k n:Nat} (hn:n≤12):RibOk ⟨12,flt m k n,W⟩:=by
 refine ⟨by simp only;omega,by have:=flt_len (m:=m) (k:=k) (n:=n);simp only;omega,h.n,h.ok,fun x hx=>?_,flt_rise n⟩
 obtain ⟨t,h1,_,rfl⟩:=flt_mem.1 hx
 simp only
 omega
theorem CleanW.nil {W:List Wnt} (h:CleanW W):RibOk ⟨12,[],W⟩:=h.rib (m:=1) (k:=0) (n:=0) (by omega)
end Go.AM
namespace Go.AM
open Go.Proofs.Tryz
attribute [-go_sem] put_ne put_same
attribute [local go_sem ↓] put_if
theorem app_two {base b:Nat} {H:Heap} {u w:AVal} {l m:List Int} {x:Int} (oU:Own encI 3 b H u l) (oW:Own encI 3 b H w m) (hA:Asun u w) (hb:base≤b) (hbh:b≤H.length) (hl:l.length≤1000) (hx:-1000≤x∧x≤1000) :
  ∃ u' H',appendA prog base H 35 u (.vals [.int .i64 x])=some (u',H')∧Own encI 3 b H' u' (l++[x])∧Own encI 3 b H' w m∧Asun u' w∧One u'∧H.length≤H'.length∧(∀ G,G.length≤b→Ext G H→Ext G H')∧KeepO encI 3 H H':=by
 obtain ⟨u',H',e1,o1,l1,a4,one1,kp⟩:=oU.append1X (P:=prog) (base:=base) (y:=x) (a:=.int .i64 x) (t:=35) rfl rfl Fc.el35 encI_sc hb hbh (by omega)
 have e2:=app_sn1 (P:=prog) (base:=base) (t:=35) (y:=x) (a:=.int .i64 x) oU rfl rfl Fc.el35 encI_sc hb (by omega)
 rw [e1] at e2
 obtain ⟨eu,eH⟩:=Prod.mk.inj (Option.some.inj e2)
 refine ⟨u',H',e1,o1,?_,?_,one1,l1,a4,kp⟩
 ·rw [eH];exact oW.sn_oth hA
 ·rw [eu];exact oW.sn_asun hA
end Go.AM
namespace Go.AM
open Go.Proofs.Tryz
attribute [-go_sem] put_ne put_same
attribute [local go_sem ↓] put_if
def encG:Enc (Int × Int × Int × Int):=⟨4,fun w=>[.int .i64 w.1,.int .i64 w.2.1,.int .i64 w.2.2.1,.int .i64 w.2.2.2],fun _=>rfl,by decide⟩
theorem encG_sc:∀ y,(encG.cells y).all AVal.scalar=true:=fun _=>rfl
theorem run_sin {base:Nat} {h:Heap} {n lo hi:Int}:callL prog raw base (.fn 156 [] []) [.int .i64 n,.int .i64 lo,.int .i64 hi] h=some (.bool (decide (lo≤n∧n≤hi)),h):=by
 refine callL_run func156 rfl rfl ?_
 by_cases h1:lo≤n
 ·have t1:(n ≥ lo)=True:=eq_true h1
  have hsp:=@Nat.succ_ne_zero;repeat' (first|simp (disch:=first|exact dqb|fail) only [go_sem,↓reduceIte,hsp,t1]|refine WP_drw ?_|refine cnd_intro (fun hsp=>?_) fun hsp=>?_)
  refine fB ?_
  simp [h1]
 ·have t1:(n ≥ lo)=False:=eq_false h1
  have hsp:=@Nat.succ_ne_zero;repeat' (first|simp (disch:=first|exact dqb|fail) only [go_sem,↓reduceIte,hsp,t1]|refine WP_drw ?_|refine cnd_intro (fun hsp=>?_) fun hsp=>?_)
  refine fB ?_
  simp [h1]
attribute [go_sem] run_sin
theorem run_sleast {base:Nat} {h:Heap} {n x:Int} {v:AVal} (hI:Ints h v [x]):callL prog raw base (.fn 165 [] []) [.int .i64 n,v] h=some (.int .i64 (min n x),h):=by
 have hlen:=lenI hI
 have hov:=hI.one
 have a0:=adrI (i:=0) (by omega) hI (by simp)
 have l0:=loadI hI (i:=0) (by simp)
 have l0:loadP prog h 3 (elAddr v (0:Int).toNat)=some (.int .i64 x):=l0
 have e1:(([x]:List Int).length:Int)=1:=rfl
 have t1:((0:Int)<1)=True:=eq_true (by omega)
 have t2:((1:Int)<1)=False:=eq_false (by omega)
 rw [e1] at hlen
 refine callL_run func165 rfl rfl ?_
 have hsp:=@Nat.succ_ne_zero;repeat' (first|simp (disch:=first|exact dqb|fail) only [go_sem,↓reduceIte,hsp,hlen]|refine WP_drw ?_|refine cnd_intro (fun hsp=>?_) fun hsp=>?_)
 rw [WP_loop1]
 have hsp:=@Nat.succ_ne_zero;repeat' (first|simp (disch:=first|exact dqb|fail) only [go_sem,↓reduceIte,hsp,hlen,t1,a0,l0]|refine WP_drw ?_|refine cnd_intro (fun hsp=>?_) fun hsp=>?_)
 rw [WP_loop1]
 have hsp:=@Nat.succ_ne_zero;repeat' (first|simp (disch:=first|exact dqb|fail) only [go_sem,↓reduceIte,hsp,t2]|refine WP_drw ?_|refine cnd_intro (fun hsp=>?_) fun hsp=>?_)
 exact fI rfl
theorem run_allowed {base:Nat} {h:Heap} {k:Int} (hk:0≤k∧k≤3):callL prog raw base (.fn 68 [] []) [.int .i64 k] h=some (.bool true,h):=by
 have t1:(k ≥ 0)=True:=eq_true hk.1
 have t2:(k≤3)=True:=eq_true hk.2
 refine callL_run func68 rfl rfl ?_
 have hsp:=@Nat.succ_ne_zero;repeat' (first|simp (disch:=first|exact dqb|fail) only [go_sem,↓reduceIte,hsp,t1,t2]|refine WP_drw ?_|refine cnd_intro (fun hsp=>?_) fun hsp=>?_)
 exact fB rfl
abbrev wgB (w:Int × Int × Int × Int):ABlk:=⟨.cells [.int .i64 w.1,.int .i64 w.2.1,.int .i64 w.2.2.1,.int .i64 w.2.2.2] 93 false false,0⟩
structure WgOk (n:Nat) (w:Int × Int × Int × Int):Prop where
 l:0≤w.1∧w.1<(n:Int)
 r:0≤w.2.1∧w.2.1≤10000
 d:w.2.2.1=0∧w.2.2.2=0
theorem run_bounded {base n:Nat} {h:Heap} {w:Int × Int × Int × Int} (ok:WgOk n w):callL prog raw base (.fn 158 [] []) [.agg (encG.cells w)] h=some (.bool true,h):=by
 obtain ⟨l,r,d1,d2⟩:=w
 obtain ⟨h1,h2,h3,h4⟩:=ok
 simp only at h1 h2 h3 h4
 subst h3 h4
 have t1:=decide_eq_true h2
 have t2:decide ((0:Int)≤0∧(0:Int)≤60)=true:=by decide
 simp only [encG]
 refine callL_run func158 rfl rfl ?_
 have hsp:=@Nat.succ_ne_zero;repeat' (first|simp (disch:=first|exact dqb|fail) only [go_sem,↓reduceIte,hsp,t1,t2]|refine WP_drw ?_|refine cnd_intro (fun hsp=>?_) fun hsp=>?_)
 exact fB rfl
theorem run_sck1 {base:Nat} {h:Heap} {x:Int × Int} (hk:0≤x.2∧x.2≤3):callL prog raw base (.fn 160 [] []) [.agg (encS.cells x)] h=some (.bool true,h):=by
 have w:=fun base H=>run_allowed (base:=base) (h:=H) hk
 simp only [encS]
 refine callL_run func160 rfl rfl ?_
 have hsp:=@Nat.succ_ne_zero;repeat' (first|simp (disch:=first|exact dqb|fail) only [go_sem,↓reduceIte,hsp,w]|refine WP_drw ?_|refine cnd_intro (fun hsp=>?_) fun hsp=>?_)
 exact fB rfl
theorem run_sck3 {base n:Nat} {h:Heap} {w:Int × Int × Int × Int} (ok:WgOk n w):callL prog raw base (.fn 162 [] []) [.agg (encG.cells w)] h=some (.bool true,h):=by
 obtain ⟨l,r,d1,d2⟩:=w
 obtain ⟨h1,h2,h3,h4⟩:=ok
 simp only at h1 h2 h3 h4
 subst h3 h4
 simp only [encG]
 refine callL_run func162 rfl rfl ?_
 have hsp:=@Nat.succ_ne_zero;repeat' (first|simp (disch:=first|exact dqb|fail) only [go_sem,↓reduceIte,hsp]|refine WP_drw ?_|refine cnd_intro (fun hsp=>?_) fun hsp=>?_)
 exact fB rfl
structure Mil where
 E:Int
 L:List (Int × Int)
 G:List (Int × Int × Int × Int)
def MilAt (h:Heap) (v:AVal) (M:Mil):Prop:=∃ lv wv,v=.agg [.int .i64 M.E,lv,wv]∧Rows encS h lv M.L∧Rows encG h wv M.G
theorem MilAt.ext {h H:Heap} {v:AVal} {M:Mil} (x:MilAt h v M) (e:Ext h H):MilAt H v M:=by
 obtain ⟨lv,wv,rfl,a,b⟩:=x
 exact ⟨lv,wv,rfl,a.ext e,b.ext e⟩
abbrev mlB (E:Int) (lv wv:AVal):ABlk:=⟨.cells [.int .i64 E,lv,wv] 87 false false,0⟩
structure MOk (M:Mil):Prop where
 E:M.E=0
 n:1≤M.L.length∧M.L.length≤12
 g:M.G.length≤10
 k:∀ x ∈ M.L,0≤x.2∧x.2≤3
 f:∀ (i:Nat) x,M.L[i]?=some x→-1≤x.1∧x.1≤(i:Int)-1
 w:∀ w ∈ M.G,WgOk M.L.length w
theorem run_lot {base:Nat} {h:Heap} {E n:Int} {lv wv:AVal} {L:List (Int × Int)} (hL:Rows encS h lv L) (o:One wv) (hl:L.length≤12):callL prog raw base (.fn 152 [] []) [.agg [.int .i64 E,lv,wv],.int .i64 n] h=some (.bool (decide (0≤n∧n≤(L.length:Int)-1)),h):=by
 have o2:=hL.one
 have hn:=(hL.app (T:=[mlB E lv wv])).len (P:=prog) Fc.el84
 refine callL_run func152 rfl rfl ?_
 have hsp:=@Nat.succ_ne_zero;repeat' (first|simp (disch:=first|exact dqb|fail) only [go_sem,↓reduceIte,hsp,hn]|refine WP_drw ?_|refine cnd_intro (fun hsp=>?_) fun hsp=>?_)
 exact fB rfl
theorem run_lot' {base:Nat} {h:Heap} {E n:Int} {lv wv:AVal} {L:List (Int × Int)} (hL:Rows encS h lv L) (o:One wv) (hl:L.length≤12):callL prog raw base (.fn 152 [.agg [.int .i64 E,lv,wv]] []) [.int .i64 n] h=some (.bool (decide (0≤n∧n≤(L.length:Int)-1)),h):=by
 have o2:=hL.one
 have hn:=(hL.app (T:=[mlB E lv wv])).len (P:=prog) Fc.el84
 refine callL_run func152 rfl rfl ?_
 have hsp:=@Nat.succ_ne_zero;repeat' (first|simp (disch:=first|exact dqb|fail) only [go_sem,↓reduceIte,hsp,hn]|refine WP_drw ?_|refine cnd_intro (fun hsp=>?_) fun hsp=>?_)
 exact fB rfl
theorem run_sck2 {base id:Nat} {h:Heap} {E:Int} {lv wv:AVal} {L:List (Int × Int)} {w:Int × Int × Int × Int} (hL:Rows encS h lv L) (o:One wv) (hl:L.length≤12) (ok:WgOk L.length w) (hg:h[id]?=some ⟨.cells [.fn 152 [.agg [.int .i64 E,lv,wv]] []] 132 false false,0⟩) :
  callL prog raw base (.fn 161 [] [.ptr (some ⟨id,0,0⟩)]) [.agg (encG.cells w)] h=some (.bool true,h):=by
 have hc:=fun base T=>run_lot' (base:=base) (E:=E) (n:=w.1) (hL.app (T:=T)) o hl
 have h1:=ok.l
 rw [decide_eq_true (by omega)] at hc
 have hgt:∀ {T:Heap},(h++T)[id]?=some ⟨.cells [.fn 152 [.agg [.int .i64 E,lv,wv]] []] 132 false false,0⟩:=fun {T}=>get_app hg
 simp only [encG]
 refine callL_run func161 rfl rfl ?_
 have hsp:=@Nat.succ_ne_zero;repeat' (first|simp (disch:=first|exact dqb|fail) only [go_sem,↓reduceIte,hsp,hgt,hc]|refine WP_drw ?_|refine cnd_intro (fun hsp=>?_) fun hsp=>?_)
 exact fB rfl
end Go.AM
namespace Go.AM
open Go.Proofs.Tryz
attribute [-go_sem] put_ne put_same
attribute [local go_sem ↓] put_if
theorem idxF_SG {base:Nat} {h:Heap} {v g:AVal} {l:List ((Int × Int × Int × Int))} (p:(Int × Int × Int × Int)→Bool) (hR:Rows encG h v l) (hg:∀ base x,x ∈ l→callL prog raw base g [.agg (encG.cells x)] h=some (.bool (p x),h)) :
  callL prog raw base (.fn 260 [] []) [v,g] h=some (.int .i64 (idx p l),h):=by
 have hb:l.length<2 ^ 60:=hR.1
 refine callL_run func260 rfl rfl ?_
 have hsp:=@Nat.succ_ne_zero;repeat' (first|simp (disch:=first|exact dqb|fail) only [go_sem,↓reduceIte,hsp,hR.len Fc.el85]|refine WP_drw ?_|refine cnd_intro (fun hsp=>?_) fun hsp=>?_)
 refine WP_loop (fun σ=>∃ n:Nat,σ.fr 8=.int .i64 (n:Int)∧σ.fr 0=v∧σ.fr 1=g∧σ.fr 7=.int .i64 (l.length:Int)∧σ.h=h∧n≤l.length∧(∀ x ∈ l.take n,p x=false)) (fun σ=>match σ.fr 8 with|.int _ x=>(((l.length:Nat):Int)-x).toNat|_=>0) ?_ ?_
 ·refine ⟨0,?_,?_,?_,?_,?_,by omega,?_⟩
  iterate 5 focus (first|rfl|(simp (disch:=first|exact dqb|fail) only [go_sem,↓reduceIte,Int.natCast_zero];first|done|rfl))
  intro x hx;simp at hx
 ·rintro ⟨fr,hp⟩ ⟨n,r8,r0,r1,r7,rh,hi,hP⟩
  dsimp only at r8 r0 r1 r7 rh hi hP
  subst rh
  by_cases hn:n<l.length
  ·have hlt:((n:Int)<(l.length:Int))=True:=eq_true (by omega)
   have hx:l[n]?=some l[n]:=List.getElem?_eq_getElem hn
   have had:=hR.addr (i:=(n:Int)) Fc.el85 Fc.ar85 (by omega) (by omega)
   rw [Int.toNat_natCast] at had
   have hld:=hR.load Fc.ty93 hx
   have hc:=fun base=>hg base l[n] (List.getElem_mem hn)
   cases hp:p l[n] with
   | true =>
    rw [hp] at hc
    have hsp:=@Nat.succ_ne_zero;repeat' (first|simp (disch:=first|exact dqb|fail) only [go_sem,↓reduceIte,hsp,r8,r0,r1,r7,hlt,had,hld,hc]|refine WP_drw ?_|refine cnd_intro (fun hsp=>?_) fun hsp=>?_)
    rw [idx_hit p hn hP hp]
    all_goals (first|refine fI ?_|refine fB ?_|refine fII ?_ ?_|refine fBI ?_ ?_|refine fIII ?_ ?_ ?_|refine fIIB ?_ ?_ ?_|skip);all_goals (try dsimp only);all_goals (try with_reducible rfl);all_goals (try omega)
   | false =>
    rw [hp] at hc
    have hsp:=@Nat.succ_ne_zero;repeat' (first|simp (disch:=first|exact dqb|fail) only [go_sem,↓reduceIte,hsp,r8,r0,r1,r7,hlt,had,hld,hc]|refine WP_drw ?_|refine cnd_intro (fun hsp=>?_) fun hsp=>?_)
    exact ⟨⟨n+1,by simp,by omega,take_next p hn hP hp⟩,by omega⟩
  ·have hlt:((n:Int)<(l.length:Int))=False:=eq_false (by omega)
   obtain rfl:n=l.length:=by omega
   have hsp:=@Nat.succ_ne_zero;repeat' (first|simp (disch:=first|exact dqb|fail) only [go_sem,↓reduceIte,hsp,r8,r0,r1,r7,hlt]|refine WP_drw ?_|refine cnd_intro (fun hsp=>?_) fun hsp=>?_)
   rw [idx_miss p hP]
   all_goals (first|refine fI ?_|refine fB ?_|refine fII ?_ ?_|refine fBI ?_ ?_|refine fIII ?_ ?_ ?_|refine fIIB ?_ ?_ ?_|skip);all_goals (try dsimp only);all_goals (try with_reducible rfl);all_goals (try omega)
theorem anyF_SG {base:Nat} {h:Heap} {v g:AVal} {l:List ((Int × Int × Int × Int))} (p:(Int × Int × Int × Int)→Bool) (hR:Rows encG h v l) (hg:∀ base x,x ∈ l→callL prog raw base g [.agg (encG.cells x)] h=some (.bool (p x),h)) :
  callL prog raw base (.fn 216 [] []) [v,g] h=some (.bool (l.any p),h):=by
 have hi:=fun base=>idxF_SG (base:=base) p hR hg
 have h0:=idx_any p l
 refine callL_run func216 rfl rfl ?_
 have hsp:=@Nat.succ_ne_zero;repeat' (first|simp (disch:=first|exact dqb|fail) only [go_sem,↓reduceIte,hsp,hi]|refine WP_drw ?_|refine cnd_intro (fun hsp=>?_) fun hsp=>?_)
 refine fB ?_
 by_cases h1:l.any p=true
 ·rw [h1];simpa using h0.2 h1
 ·have h2:¬ 0≤idx p l:=fun h=>h1 (h0.1 h)
  simp only [Bool.not_eq_true] at h1
  rw [h1];simpa using h2
theorem not_SG {base id:Nat} {h:Heap} {g:AVal} {x:(Int × Int × Int × Int)} {b:Bool} (hid:h[id]?=some ⟨.cells [g] 284 false false,0⟩) (hg:∀ base T,callL prog raw base g [.agg (encG.cells x)] (h++T)=some (.bool b,h++T)) :
  callL prog raw base (.fn 217 [] [.ptr (some ⟨id,0,0⟩)]) [.agg (encG.cells x)] h=some (.bool (!b),h):=by
 have hgi:=lt_of_get hid
 simp only [encG] at hg ⊢
 refine callL_run func217 rfl rfl ?_
 have hsp:=@Nat.succ_ne_zero;repeat' (first|simp (disch:=first|exact dqb|fail) only [go_sem,↓reduceIte,hsp,hid,hg]|refine WP_drw ?_|refine cnd_intro (fun hsp=>?_) fun hsp=>?_)
 exact fB rfl
theorem every_SG {base:Nat} {h:Heap} {v g:AVal} {l:List ((Int × Int × Int × Int))} (p:(Int × Int × Int × Int)→Bool) (hR:Rows encG h v l) (hg:∀ base T x,x ∈ l→callL prog raw base g [.agg (encG.cells x)] (h++T)=some (.bool (p x),h++T)) (h1:One g) :
  callL prog raw base (.fn 157 [] []) [v,g] h=some (.bool (l.all p),h):=by
 have hc:=fun base=>anyF_SG (base:=base) (fun x=>!p x) hR.app (fun base x hx=>not_SG (x:=x) (get_eq rfl) (fun base T=>by have:=hg base ([⟨.cells [g] 284 false false,0⟩]++T) x hx;rwa [← List.append_assoc] at this))
 refine callL_run func157 rfl rfl ?_
 have hsp:=@Nat.succ_ne_zero;repeat' (first|simp (disch:=first|exact dqb|fail) only [go_sem,↓reduceIte,hsp,hc]|refine WP_drw ?_|refine cnd_intro (fun hsp=>?_) fun hsp=>?_)
 refine fB ?_
 rw [List.any_eq_not_all_not]
 simp
theorem idxF_SL {base:Nat} {h:Heap} {v g:AVal} {l:List ((Int × Int))} (p:(Int × Int)→Bool) (hR:Rows encS h v l) (hg:∀ base x,x ∈ l→callL prog raw base g [.agg (encS.cells x)] h=some (.bool (p x),h)) :
  callL prog raw base (.fn 261 [] []) [v,g] h=some (.int .i64 (idx p l),h):=by
 have hb:l.length<2 ^ 60:=hR.1
 refine callL_run func261 rfl rfl ?_
 have hsp:=@Nat.succ_ne_zero;repeat' (first|simp (disch:=first|exact dqb|fail) only [go_sem,↓reduceIte,hsp,hR.len Fc.el84]|refine WP_drw ?_|refine cnd_intro (fun hsp=>?_) fun hsp=>?_)
 refine WP_loop (fun σ=>∃ n:Nat,σ.fr 8=.int .i64 (n:Int)∧σ.fr 0=v∧σ.fr 1=g∧σ.fr 7=.int .i64 (l.length:Int)∧σ.h=h∧n≤l.length∧(∀ x ∈ l.take n,p x=false)) (fun σ=>match σ.fr 8 with|.int _ x=>(((l.length:Nat):Int)-x).toNat|_=>0) ?_ ?_
 ·refine ⟨0,?_,?_,?_,?_,?_,by omega,?_⟩
  iterate 5 focus (first|rfl|(simp (disch:=first|exact dqb|fail) only [go_sem,↓reduceIte,Int.natCast_zero];first|done|rfl))
  intro x hx;simp at hx
 ·rintro ⟨fr,hp⟩ ⟨n,r8,r0,r1,r7,rh,hi,hP⟩
  dsimp only at r8 r0 r1 r7 rh hi hP
  subst rh
  by_cases hn:n<l.length
  ·have hlt:((n:Int)<(l.length:Int))=True:=eq_true (by omega)
   have hx:l[n]?=some l[n]:=List.getElem?_eq_getElem hn
   have had:=hR.addr (i:=(n:Int)) Fc.el84 Fc.ar84 (by omega) (by omega)
   rw [Int.toNat_natCast] at had
   have hld:=hR.load Fc.ty83 hx
   have hc:=fun base=>hg base l[n] (List.getElem_mem hn)
   cases hp:p l[n] with
   | true =>
    rw [hp] at hc
    have hsp:=@Nat.succ_ne_zero;repeat' (first|simp (disch:=first|exact dqb|fail) only [go_sem,↓reduceIte,hsp,r8,r0,r1,r7,hlt,had,hld,hc]|refine WP_drw ?_|refine cnd_intro (fun hsp=>?_) fun hsp=>?_)
    rw [idx_hit p hn hP hp]
    all_goals (first|refine fI ?_|refine fB ?_|refine fII ?_ ?_|refine fBI ?_ ?_|refine fIII ?_ ?_ ?_|refine fIIB ?_ ?_ ?_|skip);all_goals (try dsimp only);all_goals (try with_reducible rfl);all_goals (try omega)
   | false =>
    rw [hp] at hc
    have hsp:=@Nat.succ_ne_zero;repeat' (first|simp (disch:=first|exact dqb|fail) only [go_sem,↓reduceIte,hsp,r8,r0,r1,r7,hlt,had,hld,hc]|refine WP_drw ?_|refine cnd_intro (fun hsp=>?_) fun hsp=>?_)
    exact ⟨⟨n+1,by simp,by omega,take_next p hn hP hp⟩,by omega⟩
  ·have hlt:((n:Int)<(l.length:Int))=False:=eq_false (by omega)
   obtain rfl:n=l.length:=by omega
   have hsp:=@Nat.succ_ne_zero;repeat' (first|simp (disch:=first|exact dqb|fail) only [go_sem,↓reduceIte,hsp,r8,r0,r1,r7,hlt]|refine WP_drw ?_|refine cnd_intro (fun hsp=>?_) fun hsp=>?_)
   rw [idx_miss p hP]
   all_goals (first|refine fI ?_|refine fB ?_|refine fII ?_ ?_|refine fBI ?_ ?_|refine fIII ?_ ?_ ?_|refine fIIB ?_ ?_ ?_|skip);all_goals (try dsimp only);all_goals (try with_reducible rfl);all_goals (try omega)
theorem anyF_SL {base:Nat} {h:Heap} {v g:AVal} {l:List ((Int × Int))} (p:(Int × Int)→Bool) (hR:Rows encS h v l) (hg:∀ base x,x ∈ l→callL prog raw base g [.agg (encS.cells x)] h=some (.bool (p x),h)) :
  callL prog raw base (.fn 218 [] []) [v,g] h=some (.bool (l.any p),h):=by
 have hi:=fun base=>idxF_SL (base:=base) p hR hg
 have h0:=idx_any p l
 refine callL_run func218 rfl rfl ?_
 have hsp:=@Nat.succ_ne_zero;repeat' (first|simp (disch:=first|exact dqb|fail) only [go_sem,↓reduceIte,hsp,hi]|refine WP_drw ?_|refine cnd_intro (fun hsp=>?_) fun hsp=>?_)
 refine fB ?_
 by_cases h1:l.any p=true
 ·rw [h1];simpa using h0.2 h1
 ·have h2:¬ 0≤idx p l:=fun h=>h1 (h0.1 h)
  simp only [Bool.not_eq_true] at h1
  rw [h1];simpa using h2
theorem not_SL {base id:Nat} {h:Heap} {g:AVal} {x:(Int × Int)} {b:Bool} (hid:h[id]?=some ⟨.cells [g] 286 false false,0⟩) (hg:∀ base T,callL prog raw base g [.agg (encS.cells x)] (h++T)=some (.bool b,h++T)) :
  callL prog raw base (.fn 219 [] [.ptr (some ⟨id,0,0⟩)]) [.agg (encS.cells x)] h=some (.bool (!b),h):=by
 have hgi:=lt_of_get hid
 simp only [encS] at hg ⊢
 refine callL_run func219 rfl rfl ?_
 have hsp:=@Nat.succ_ne_zero;repeat' (first|simp (disch:=first|exact dqb|fail) only [go_sem,↓reduceIte,hsp,hid,hg]|refine WP_drw ?_|refine cnd_intro (fun hsp=>?_) fun hsp=>?_)
 exact fB rfl
theorem every_SL {base:Nat} {h:Heap} {v g:AVal} {l:List ((Int × Int))} (p:(Int × Int)→Bool) (hR:Rows encS h v l) (hg:∀ base T x,x ∈ l→callL prog raw base g [.agg (encS.cells x)] (h++T)=some (.bool (p x),h++T)) (h1:One g) :
  callL prog raw base (.fn 159 [] []) [v,g] h=some (.bool (l.all p),h):=by
 have hc:=fun base=>anyF_SL (base:=base) (fun x=>!p x) hR.app (fun base x hx=>not_SL (x:=x) (get_eq rfl) (fun base T=>by have:=hg base ([⟨.cells [g] 286 false false,0⟩]++T) x hx;rwa [← List.append_assoc] at this))
 refine callL_run func159 rfl rfl ?_
 have hsp:=@Nat.succ_ne_zero;repeat' (first|simp (disch:=first|exact dqb|fail) only [go_sem,↓reduceIte,hsp,hc]|refine WP_drw ?_|refine cnd_intro (fun hsp=>?_) fun hsp=>?_)
 refine fB ?_
 rw [List.any_eq_not_all_not]
 simp
theorem idxF_SK {base:Nat} {h:Heap} {v g:AVal} {l:List (Int)} (p:Int→Bool) (hR:Rows encI h v l) (hg:∀ base x,x ∈ l→callL prog raw base g [.int .i64 x] h=some (.bool (p x),h)) :
  callL prog raw base (.fn 215 [] []) [v,g] h=some (.int .i64 (idx p l),h):=by
 have hb:l.length<2 ^ 60:=hR.1
 refine callL_run func215 rfl rfl ?_
 have hsp:=@Nat.succ_ne_zero;repeat' (first|simp (disch:=first|exact dqb|fail) only [go_sem,↓reduceIte,hsp,hR.len Fc.el88]|refine WP_drw ?_|refine cnd_intro (fun hsp=>?_) fun hsp=>?_)
 refine WP_loop (fun σ=>∃ n:Nat,σ.fr 8=.int .i64 (n:Int)∧σ.fr 0=v∧σ.fr 1=g∧σ.fr 7=.int .i64 (l.length:Int)∧σ.h=h∧n≤l.length∧(∀ x ∈ l.take n,p x=false)) (fun σ=>match σ.fr 8 with|.int _ x=>(((l.length:Nat):Int)-x).toNat|_=>0) ?_ ?_
 ·refine ⟨0,?_,?_,?_,?_,?_,by omega,?_⟩
  iterate 5 focus (first|rfl|(simp (disch:=first|exact dqb|fail) only [go_sem,↓reduceIte,Int.natCast_zero];first|done|rfl))
  intro x hx;simp at hx
 ·rintro ⟨fr,hp⟩ ⟨n,r8,r0,r1,r7,rh,hi,hP⟩
  dsimp only at r8 r0 r1 r7 rh hi hP
  subst rh
  by_cases hn:n<l.length
  ·have hlt:((n:Int)<(l.length:Int))=True:=eq_true (by omega)
   have hx:l[n]?=some l[n]:=List.getElem?_eq_getElem hn
   have had:=hR.addr (i:=(n:Int)) Fc.el88 Fc.ar88 (by omega) (by omega)
   rw [Int.toNat_natCast] at had
   have hld:=hR.cell (o:=0) Fc.ty81 hx rfl
   have hc:=fun base=>hg base l[n] (List.getElem_mem hn)
   cases hp:p l[n] with
   | true =>
    rw [hp] at hc
    have hsp:=@Nat.succ_ne_zero;repeat' (first|simp (disch:=first|exact dqb|fail) only [go_sem,↓reduceIte,hsp,r8,r0,r1,r7,hlt,had,hld,hc]|refine WP_drw ?_|refine cnd_intro (fun hsp=>?_) fun hsp=>?_)
    rw [idx_hit p hn hP hp]
    all_goals (first|refine fI ?_|refine fB ?_|refine fII ?_ ?_|refine fBI ?_ ?_|refine fIII ?_ ?_ ?_|refine fIIB ?_ ?_ ?_|skip);all_goals (try dsimp only);all_goals (try with_reducible rfl);all_goals (try omega)
   | false =>
    rw [hp] at hc
    have hsp:=@Nat.succ_ne_zero;repeat' (first|simp (disch:=first|exact dqb|fail) only [go_sem,↓reduceIte,hsp,r8,r0,r1,r7,hlt,had,hld,hc]|refine WP_drw ?_|refine cnd_intro (fun hsp=>?_) fun hsp=>?_)
    exact ⟨⟨n+1,by simp,by omega,take_next p hn hP hp⟩,by omega⟩
  ·have hlt:((n:Int)<(l.length:Int))=False:=eq_false (by omega)
   obtain rfl:n=l.length:=by omega
   have hsp:=@Nat.succ_ne_zero;repeat' (first|simp (disch:=first|exact dqb|fail) only [go_sem,↓reduceIte,hsp,r8,r0,r1,r7,hlt]|refine WP_drw ?_|refine cnd_intro (fun hsp=>?_) fun hsp=>?_)
   rw [idx_miss p hP]
   all_goals (first|refine fI ?_|refine fB ?_|refine fII ?_ ?_|refine fBI ?_ ?_|refine fIII ?_ ?_ ?_|refine fIIB ?_ ?_ ?_|skip);all_goals (try dsimp only);all_goals (try with_reducible rfl);all_goals (try omega)
theorem anyF_SK {base:Nat} {h:Heap} {v g:AVal} {l:List (Int)} (p:Int→Bool) (hR:Rows encI h v l) (hg:∀ base x,x ∈ l→callL prog raw base g [.int .i64 x] h=some (.bool (p x),h)) :
  callL prog raw base (.fn 153 [] []) [v,g] h=some (.bool (l.any p),h):=by
 have hi:=fun base=>idxF_SK (base:=base) p hR hg
 have h0:=idx_any p l
 refine callL_run func153 rfl rfl ?_
 have hsp:=@Nat.succ_ne_zero;repeat' (first|simp (disch:=first|exact dqb|fail) only [go_sem,↓reduceIte,hsp,hi]|refine WP_drw ?_|refine cnd_intro (fun hsp=>?_) fun hsp=>?_)
 refine fB ?_
 by_cases h1:l.any p=true
 ·rw [h1];simpa using h0.2 h1
 ·have h2:¬ 0≤idx p l:=fun h=>h1 (h0.1 h)
  simp only [Bool.not_eq_true] at h1
  rw [h1];simpa using h2
theorem not_SK {base id:Nat} {h:Heap} {g:AVal} {x:Int} {b:Bool} (hid:h[id]?=some ⟨.cells [g] 178 false false,0⟩) (hg:∀ base T,callL prog raw base g [.int .i64 x] (h++T)=some (.bool b,h++T)) :
  callL prog raw base (.fn 154 [] [.ptr (some ⟨id,0,0⟩)]) [.int .i64 x] h=some (.bool (!b),h):=by
 have hgi:=lt_of_get hid
 have hg0:=fun base=>hg base []
 simp only [List.append_nil] at hg0
 refine callL_run func154 rfl rfl ?_
 have hsp:=@Nat.succ_ne_zero;repeat' (first|simp (disch:=first|exact dqb|fail) only [go_sem,↓reduceIte,hsp,hid,hg0]|refine WP_drw ?_|refine cnd_intro (fun hsp=>?_) fun hsp=>?_)
 exact fB rfl
theorem every_SK {base:Nat} {h:Heap} {v g:AVal} {l:List (Int)} (p:Int→Bool) (hR:Rows encI h v l) (hg:∀ base T x,x ∈ l→callL prog raw base g [.int .i64 x] (h++T)=some (.bool (p x),h++T)) (h1:One g) :
  callL prog raw base (.fn 67 [] []) [v,g] h=some (.bool (l.all p),h):=by
 have hc:=fun base=>anyF_SK (base:=base) (fun x=>!p x) hR.app (fun base x hx=>not_SK (x:=x) (get_eq rfl) (fun base T=>by have:=hg base ([⟨.cells [g] 178 false false,0⟩]++T) x hx;rwa [← List.append_assoc] at this))
 refine callL_run func67 rfl rfl ?_
 have hsp:=@Nat.succ_ne_zero;repeat' (first|simp (disch:=first|exact dqb|fail) only [go_sem,↓reduceIte,hsp,hc]|refine WP_drw ?_|refine cnd_intro (fun hsp=>?_) fun hsp=>?_)
 refine fB ?_
 rw [List.any_eq_not_all_not]
 simp
end Go.AM
