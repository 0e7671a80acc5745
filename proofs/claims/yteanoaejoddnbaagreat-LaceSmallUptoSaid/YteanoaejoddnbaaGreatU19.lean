/-
  Contracts: a ring of the first order that explains the rows (Ring).
-/
import Derived.Test.YteanoaejoddnbaaGreatU18
import Derived.Test.YteanoaejoddnbaaGreatU16
import Derived.Test.YteanoaejoddnbaaGreatU15
import Derived.Test.YteanoaejoddnbaaGreatU14
import Derived.Test.YteanoaejoddnbaaGreatU17
import Derived.Test.YteanoaejoddnbaaGreatU13
set_option linter.unusedSimpArgs false
set_option linter.unusedVariables false
namespace Go.AM
open Go.Proofs.Tryz
attribute [-go_sem] put_ne put_same
attribute [local go_sem ↓] put_if
def IsRing (L:Lac) (l:List Int):Prop:=∃ o1 o2 a r,(fnd L)[0]?=some o1∧(fnd L)[1]?=some o2∧a<L.C.length∧o1.getD a 0 ≠ o2.getD a 0∧0<r∧itr o1 o2 a r=a∧(∀ i,0<i→i<r→itr o1 o2 a i ≠ a)∧l=rngL o1 o2 a r
def rngE (L:Lac):Int:=if (fndE L).2=0 then (if (fnd L).length=1 then 6 else 0) else (fndE L).2
theorem first_dif {n:Nat} {o1 o2:List Int} (h1:o1.length=n) (h2:o2.length=n) (hne:o1 ≠ o2):∃ a,a<n∧o1.getD a 0 ≠ o2.getD a 0∧∀ i,i<a→o1.getD i 0=o2.getD i 0:=by
 have:∃ a,a<n∧o1.getD a 0 ≠ o2.getD a 0:=by
  refine Classical.byContradiction fun q=>hne (lst_ext (by omega) fun i hi=>?_)
  refine Classical.byContradiction fun e=>q ⟨i,by omega,e⟩
 obtain ⟨a,ha⟩:=this
 obtain ⟨m,m1,_,m3⟩:=nat_least (P:=fun a=>a<n∧o1.getD a 0 ≠ o2.getD a 0) ha
 exact ⟨m,m1.1,m1.2,fun i hi=>Classical.byContradiction fun q=>m3 i hi ⟨by omega,q⟩⟩
theorem itr_back {n:Nat} {o1 o2:List Int} (h1:Ord n o1) (h2:Ord n o2) {a:Nat} (ha:a<n):∃ r,0<r∧r≤n∧itr o1 o2 a r=a∧∀ i,0<i→i<r→itr o1 o2 a i ≠ a:=by
 have:∃ r,0<r∧r≤n∧itr o1 o2 a r=a:=by
  refine Classical.byContradiction fun q=>?_
  have:=itr_few h1 h2 ha (m:=n+1) fun i hi hin e=>q ⟨i,hi,by omega,e⟩
  omega
 obtain ⟨r,hr⟩:=this
 obtain ⟨m,m1,m2,m3⟩:=nat_least (P:=fun r=>0<r∧r≤n∧itr o1 o2 a r=a) hr
 exact ⟨m,m1.1,m1.2.1,m1.2.2,fun i hi him e=>m3 i him ⟨hi,by omega,e⟩⟩
theorem ixI_stp {n:Nat} {o1 o2:List Int} (h1:Ord n o1) (h2:Ord n o2) {p:Nat} (hp:p<n):ixI o2 (o1.getD p 0)=(stp o1 o2 p:Int):=by
 have hl:=stp_lt h1 h2 hp
 refine ixI_at (by rw [h2.1];exact hl) (stp_at h1 h2 hp) fun j hj e=>?_
 have:=ord_inj h2 (show j<n by omega) hl (by rw [e,stp_at h1 h2 hp])
 omega
set_option maxRecDepth 100000 in
set_option maxHeartbeats 2000000 in
theorem run_Ring {base:Nat} {h:Heap} {v:AVal} {L:Lac} (hb:base≤h.length) (hL:LacAt h v L) :
  Ret prog raw base (.fn 12 [] []) [v] h (fun w H=>Ext h H∧∃ x l,w=.tuple [x,.int .i64 (rngE L)]∧Own encI 3 h.length H x l∧(rngE L ≠ 0→l=[])∧(rngE L=0→IsRing L l)):=by
 have hL0:=hL
 obtain ⟨cv,rv,rfl,hC,hR⟩:=hL
 have o1:=hC.one
 have o2:=hR.one
 obtain ⟨G0,eG0⟩:∃ G0,G0=h++[lacB L.T cv rv]:=⟨_,rfl⟩
 have x0:Ext h G0:=by rw [eG0];exact .app .refl
 have g0:G0[h.length]?=some (lacB L.T cv rv):=by rw [eG0];exact get_eq rfl
 have l0:G0.length=h.length+1:=by rw [eG0];simp
 obtain ⟨w1,H1,e1,x1,a,x,rfl,oa,hA,hD⟩:=run_found (base:=base) (h:=G0) (by omega) (hL0.ext x0)
 have ox:=hA.one
 have l1:=x1.len
 have xh:=x0.trans x1
 unfold lacB at eG0 g0
 refine ret_raw func12 rfl (by kernel_rfl) ?_
 by_cases c:(fndE L).2=0
 ·obtain ⟨c1,c2,c3⟩:=fndE_ok c
  have kn:=(chkL_iff.1 c1).n
  obtain ⟨id,rfl,hDk⟩:=hD c
  rw [c3] at hA e1
  have hAI:AllI G0.length H1 x (fnd L):=hA.all
  have hfew:=fnd_few (L:=L) kn.2
  have hln:=hAI.len (by omega)
  have hpos:0<(fnd L).length:=by cases q:fnd L with|nil=>exact absurd q c2|cons a b=>simp
  by_cases c4:(fnd L).length=1
  ·have t4:(((fnd L).length:Int)=1)=True:=eq_true (by omega)
   have r:rngE L=6:=by unfold rngE;rw [if_pos c,if_pos c4]
   rw [r]
   have hsp:=@Nat.succ_ne_zero;repeat' (first|simp (disch:=first|exact dq|fail) only [go_sem,↓reduceIte,hsp,← eG0,g0,e1,eq_self,hln,t4]|refine WP_drw ?_|refine cnd_intro (fun hsp=>?_) fun hsp=>?_)
   exact ⟨xh,_,_,rfl,Own.nil,fun _=>rfl,fun q=>by simp at q⟩
  ·have t4:(((fnd L).length:Int)=1)=False:=eq_false (by omega)
   have r:rngE L=0:=by unfold rngE;rw [if_pos c,if_neg c4]
   rw [r]
   obtain ⟨m1,eq1⟩:∃ q,q=(fnd L)[0]:=⟨_,rfl⟩
   obtain ⟨m2,eq2⟩:∃ q,q=(fnd L)[1]'(by omega):=⟨_,rfl⟩
   have f1:(fnd L)[0]?=some m1:=by rw [eq1];exact List.getElem?_eq_getElem hpos
   have f2:(fnd L)[1]?=some m2:=by rw [eq2];exact List.getElem?_eq_getElem (by omega)
   have ho1:Ord L.C.length m1:=fnd_ord (List.mem_of_getElem? f1)
   have ho2:Ord L.C.length m2:=fnd_ord (List.mem_of_getElem? f2)
   have hne:m1 ≠ m2:=by
    have:=List.pairwise_iff_getElem.1 (List.nodup_iff_pairwise_ne.1 (fnd_nodup (L:=L))) 0 1 hpos (by omega) (by omega)
    rw [eq1,eq2];exact this
   obtain ⟨a,ha,had,hab⟩:=first_dif ho1.1 ho2.1 hne
   obtain ⟨rr,hr0,hrn,hrb,hrm⟩:=itr_back ho1 ho2 ha
   obtain ⟨b1,u1,ad1,ld1,ou1⟩:=hAI.at (by omega) f1
   obtain ⟨b2,u2,ad2,ld2,ou2⟩:=hAI.at (by omega) f2
   have d1:=ld1 H1 .refl
   have d2:=ld2 H1 .refl
   have n1:=ou1.one
   have n2:=ou2.one
   have i1:=ownE_ints ou1 (ord_small ho1 (by omega))
   have i2:=ownE_ints ou2 (ord_small ho2 (by omega))
   have ll1:=ho1.1
   have ll2:=ho2.1
   have lc:loadP prog H1 22 (.ptr (some ⟨id,0,1⟩))=some hDk.choose:=by obtain ⟨rv',hg,-,-⟩:=hDk.choose_spec;exact ld_cards hg
   rw [Int.natCast_zero] at ad1
   rw [show (((1:Nat):Int))=1 from rfl] at ad2
   have hsp:=@Nat.succ_ne_zero;repeat' (first|simp (disch:=first|exact dq|fail) only [go_sem,↓reduceIte,hsp,← eG0,g0,e1,eq_self,hln,t4,ad1,d1,ad2,d2]|refine WP_drw ?_|refine cnd_intro (fun hsp=>?_) fun hsp=>?_)
   refine WP_count [(9,40)] 0 a (Nat.zero_le _) (fun _ i fr H=>fr 9=.int .i64 (i:Int)∧H=H1) ?_ ?_ ?_
   ·exact ⟨by (simp (disch:=first|exact dq|fail) only [go_sem,↓reduceIte,Int.natCast_zero];first|done|rfl),rfl⟩
   ·rintro i fr H hi0 hi hA2 ⟨r9,rfl⟩
    have q2:=hA2 2 rfl
    have q3:=hA2 3 rfl
    have q4:=hA2 4 rfl
    have q7:=hA2 7 rfl
    have q8:=hA2 8 rfl
    try simp (disch:=first|exact dq|fail) only [go_sem,↓reduceIte] at q2 q3 q4 q7 q8
    have ai1:=adrI (i:=(i:Int)) (by omega) i1 (by omega)
    have ai2:=adrI (i:=(i:Int)) (by omega) i2 (by omega)
    rw [Int.toNat_natCast] at ai1 ai2
    have li1:=loadI i1 (i:=i) (by omega)
    have li2:=loadI i2 (i:=i) (by omega)
    have t5:(m1.getD i 0=m2.getD i 0)=True:=eq_true (hab i hi)
    have hsp:=@Nat.succ_ne_zero;repeat' (first|simp (disch:=first|exact dq|fail) only [go_sem,↓reduceIte,hsp,r9,q2,q3,q4,q7,q8,ai1,ai2,li1,li2,t5]|refine WP_drw ?_|refine cnd_intro (fun hsp=>?_) fun hsp=>?_)
    exact ⟨agq,by omega⟩
   ·rintro fr H hA2 ⟨r9,rfl⟩
    have q2:=hA2 2 rfl
    have q3:=hA2 3 rfl
    have q4:=hA2 4 rfl
    have q7:=hA2 7 rfl
    have q8:=hA2 8 rfl
    try simp (disch:=first|exact dq|fail) only [go_sem,↓reduceIte] at q2 q3 q4 q7 q8
    have ai1:=adrI (i:=(a:Int)) (by omega) i1 (by omega)
    have ai2:=adrI (i:=(a:Int)) (by omega) i2 (by omega)
    rw [Int.toNat_natCast] at ai1 ai2
    have li1:=loadI i1 (i:=a) (by omega)
    have li2:=loadI i2 (i:=a) (by omega)
    have t5:(m1.getD a 0=m2.getD a 0)=False:=eq_false had
    have hsp:=@Nat.succ_ne_zero;repeat' (first|simp (disch:=first|exact dq|fail) only [go_sem,↓reduceIte,hsp,r9,q2,q3,q4,q7,q8,ai1,ai2,li1,li2,t5]|refine WP_drw ?_|refine cnd_intro (fun hsp=>?_) fun hsp=>?_)
    refine WP_count [(2,3),(10,66)] 0 (rr-1) (Nat.zero_le _) (fun _ i fr K=>fr 11=.int .i64 (itr m1 m2 a i:Int)∧Ext H K∧∃ w,fr 10=w∧Own encI 3 H.length K w (rngL m1 m2 a i)) ?_ ?_ ?_
    ·exact ⟨by simp (disch:=first|exact dq|fail) only [go_sem,↓reduceIte];rfl,.refl,.slice none 0 0,by simp (disch:=first|exact dq|fail) only [go_sem,↓reduceIte],Own.nil⟩
    ·rintro i fr2 K hi0 hi hA3 ⟨r11,xK,w,r10,hW⟩
     have c4:=hA3 4 rfl
     have c7:=hA3 7 rfl
     have c8:=hA3 8 rfl
     have c9:=hA3 9 rfl
     try simp (disch:=first|exact dq|fail) only [go_sem,↓reduceIte,q4,q7,q8] at c4 c7 c8 c9
     have ow:=hW.one
     have lK:=xK.len
     have hp:=itr_lt ho1 ho2 ha i
     obtain ⟨p,ep⟩:∃ p,p=itr m1 m2 a i:=⟨_,rfl⟩
     rw [← ep] at hp r11
     obtain ⟨w',K2,ea,oW,lW,eW,oneW,kW⟩:=OwnE.snocI (base:=base) (x:=(p:Int)) (.inl hW) (by omega) lK (by rw [rngL_len];omega)
     have xK2:=eW _ (Nat.le_refl _) xK
     have ap:=adrI (i:=(p:Int)) (by omega) (i1.ext xK2) (by omega)
     rw [Int.toNat_natCast] at ap
     have lp:=loadI (i1.ext xK2) (i:=p) (by omega)
     have hix:=fun base=>run_index (base:=base) (x:=m1.getD p 0) (i2.ext xK2)
     rw [ixI_stp ho1 ho2 hp] at hix
     have hs:itr m1 m2 a (i+1)=stp m1 m2 p:=by rw [ep];rfl
     rw [← hs] at hix
     have hsl:rngL m1 m2 a (i+1)=rngL m1 m2 a i++[(p:Int)]:=by rw [rngL_succ,ep]
     have t6:((itr m1 m2 a (i+1):Int)=(a:Int))=False:=eq_false (fun e=>hrm (i+1) (by omega) (by omega) (by omega))
     have hl2:lenOpA prog K2 22 w'=some (.int .i64 ((i:Int)+1)):=by
      have:=own_len oW Fc.el22 (by rw [List.length_append,rngL_len];simp;omega)
      rw [List.length_append,rngL_len] at this;exact this
     obtain ⟨cv',hdk⟩:=hDk
     obtain ⟨rv',hg,hC',hR'⟩:=hdk
     have lcK:=ld_cards (xK2.get hg)
     have hlcK:=lenI (hC'.ext xK2)
     have oc':=hC'.one
     have t7:((i:Int)+1 > (L.C.length:Int))=False:=eq_false (by omega)
     have hsp:=@Nat.succ_ne_zero;repeat' (first|simp (disch:=first|exact dq|fail) only [go_sem,↓reduceIte,hsp,r11,r10,r9,c4,c7,c8,c9,q2,q3,q4,q7,q8,ea,ap,lp,hix,t6,hl2,lcK,hlcK,t7]|refine WP_drw ?_|refine cnd_intro (fun hsp=>?_) fun hsp=>?_)
     exact ⟨agq,xK2,w',rfl,by rw [hsl];exact oW⟩
    ·rintro fr2 K hA3 ⟨r11,xK,w,r10,hW⟩
     have c4:=hA3 4 rfl
     have c7:=hA3 7 rfl
     have c8:=hA3 8 rfl
     have c9:=hA3 9 rfl
     try simp (disch:=first|exact dq|fail) only [go_sem,↓reduceIte,q4,q7,q8] at c4 c7 c8 c9
     have ow:=hW.one
     have lK:=xK.len
     have hp:=itr_lt ho1 ho2 ha (rr-1)
     obtain ⟨p,ep⟩:∃ p,p=itr m1 m2 a (rr-1):=⟨_,rfl⟩
     rw [← ep] at hp r11
     obtain ⟨w',K2,ea,oW,lW,eW,oneW,kW⟩:=OwnE.snocI (base:=base) (x:=(p:Int)) (.inl hW) (by omega) lK (by rw [rngL_len];omega)
     have xK2:=eW _ (Nat.le_refl _) xK
     have ap:=adrI (i:=(p:Int)) (by omega) (i1.ext xK2) (by omega)
     rw [Int.toNat_natCast] at ap
     have lp:=loadI (i1.ext xK2) (i:=p) (by omega)
     have hix:=fun base=>run_index (base:=base) (x:=m1.getD p 0) (i2.ext xK2)
     rw [ixI_stp ho1 ho2 hp] at hix
     have hs:stp m1 m2 p=a:=by
      rw [ep]
      show itr m1 m2 a (rr-1+1)=a
      rw [Nat.sub_add_cancel (by omega),hrb]
     rw [hs] at hix
     have hsl:rngL m1 m2 a rr=rngL m1 m2 a (rr-1)++[(p:Int)]:=by
      have:=rngL_succ (o1:=m1) (o2:=m2) (a:=a) (r:=rr-1)
      rw [Nat.sub_add_cancel (by omega)] at this
      rw [this,ep]
     have hsp:=@Nat.succ_ne_zero;repeat' (first|simp (disch:=first|exact dq|fail) only [go_sem,↓reduceIte,hsp,r11,r10,r9,c4,c7,c8,c9,q2,q3,q4,q7,q8,ea,ap,lp,hix,eq_self]|refine WP_drw ?_|refine cnd_intro (fun hsp=>?_) fun hsp=>?_)
     exact ⟨xh.trans xK2,_,_,rfl,by rw [← hsl] at oW;exact oW.low (by omega),fun q=>q.elim,fun _=>⟨m1,m2,a,rr,f1,f2,ha,had,hr0,hrb,hrm,rfl⟩⟩
 ·have t0:((fndE L).2=0)=False:=eq_false c
  have r:rngE L=(fndE L).2:=by unfold rngE;rw [if_neg c]
  rw [r]
  have hsp:=@Nat.succ_ne_zero;repeat' (first|simp (disch:=first|exact dq|fail) only [go_sem,↓reduceIte,hsp,← eG0,g0,e1,t0]|refine WP_drw ?_|refine cnd_intro (fun hsp=>?_) fun hsp=>?_)
  exact ⟨xh,_,_,rfl,Own.nil,fun _=>rfl,fun q=>q.elim⟩
end Go.AM
namespace Go.AM
open Go.Proofs.Tryz
section
variable {α:Type} {E:Enc α} {P:Program} {base:Nat} {h:Heap} {v:AVal} {l:List α} {t e:TypeId} {zs:List AVal}
theorem Rows.nilEq2 (hR:Rows E h v l) (ht:P.underlying t=some (.slice e)):(v=.slice none 0 0∧l=[]∧binA P .eql t v (.slice .none 0 0)=some (.bool true)) ∨ binA P .eql t v (.slice .none 0 0)=some (.bool false):=by
 rcases hR.2 with ⟨rfl,rfl⟩|⟨rfl,rfl⟩|⟨r,k,c,e,row,ro,rfl,_⟩
 ·exact .inl ⟨rfl,rfl,by simp [binA,eqT,eqDepth,ht,nilS]⟩
 ·exact .inr (by simp [binA,eqT,eqDepth,ht,nilS])
 ·exact .inr (by simp [binA,eqT,eqDepth,ht,nilS])
theorem app_empE (hR:Rows E h v l) (hl:l ≠ []) (hs:∀ y,(E.cells y).all AVal.scalar=true) (hsz:l.length<2147483648) (ht:elS P t=some (e,E.z,zs)) :
  appendA P base h t .emp v=some (.slice (some ⟨h.length,0,0⟩) l.length l.length,h++[rowE E e l 0]):=by
 have hn:l.length ≠ 0:=fun q=>hl (List.eq_nil_of_length_eq_zero q)
 simp only [appendA,ht,hR.lenA,hR.firstN,flat_scalar hs,if_true]
 rw [if_neg hn,if_pos (show l.length<2 ^ 31 by omega)]
 first|done|rfl
end
end Go.AM
namespace Go.AM
open Go.Proofs.Tryz
attribute [-go_sem] put_ne put_same
attribute [local go_sem ↓] put_if
theorem run_cloneR {base:Nat} {h:Heap} {v:AVal} {l:List Rw3} (hR:Rows encR h v l) (hl:l.length≤1000) :
  Ret prog raw base (.fn 102 [] []) [v] h (fun w H=>Ext h H∧OwnE encR 28 h.length H w l):=by
 have ho:=hR.one
 have hsz:l.length<2147483648:=by omega
 refine ret_raw func102 rfl (by kernel_rfl) ?_
 rcases hR.nilEq2 Fc.un23 with ⟨rfl,rfl,e⟩|e
 ·have hsp:=@Nat.succ_ne_zero;repeat' (first|simp (disch:=first|exact dq|fail) only [go_sem,↓reduceIte,hsp,e]|refine WP_drw ?_|refine cnd_intro (fun hsp=>?_) fun hsp=>?_)
  exact ⟨.refl,.inl Own.nil⟩
 ·by_cases hl0:l=[]
  ·subst hl0
   have ha:=fun base=>app_none (base:=base) hR Fc.el23
   have hsp:=@Nat.succ_ne_zero;repeat' (first|simp (disch:=first|exact dq|fail) only [go_sem,↓reduceIte,hsp,e,bs_emp Fc.el23,ha]|refine WP_drw ?_|refine cnd_intro (fun hsp=>?_) fun hsp=>?_)
   exact ⟨.refl,.inr ⟨rfl,rfl⟩⟩
  ·have ha:=fun base=>app_empE (base:=base) hR hl0 encR_sc hsz Fc.el23
   have hsp:=@Nat.succ_ne_zero;repeat' (first|simp (disch:=first|exact dq|fail) only [go_sem,↓reduceIte,hsp,e,bs_emp Fc.el23,ha]|refine WP_drw ?_|refine cnd_intro (fun hsp=>?_) fun hsp=>?_)
   exact ⟨.app .refl,.inl (.inr ⟨h.length,0,rfl,get_eq rfl,Nat.le_refl _,List.length_pos_iff.2 hl0⟩)⟩
theorem run_dupR {base:Nat} {h:Heap} {v:AVal} {l:List Rw3} (hb:base≤h.length) (hR:Rows encR h v l) (hl:l.length≤1000) :
  Ret prog raw base (.fn 96 [] []) [v] h (fun w H=>Ext h H∧OwnE encR 28 h.length H w l):=by
 have ho:=hR.one
 have hn:=hR.len Fc.el23
 refine ret_raw func96 rfl (by kernel_rfl) ?_
 by_cases hl0:l=[]
 ·subst hl0
  have ha:=fun base=>app_none (base:=base) hR Fc.el23
  have hsp:=@Nat.succ_ne_zero;repeat' (first|simp (disch:=first|exact dq|fail) only [go_sem,↓reduceIte,hsp,hn,mk_none Fc.el23,ha,List.length_nil,Int.natCast_zero]|refine WP_drw ?_|refine cnd_intro (fun hsp=>?_) fun hsp=>?_)
  exact ⟨.refl,.inr ⟨rfl,rfl⟩⟩
 ·have hl1:0<l.length:=List.length_pos_iff.2 hl0
  have hm:=mk_room (h:=h) (n:=l.length) Fc.el23 hl1 (by omega)
  have ha:=app_fill (base:=base) hR Fc.el23 rfl encR_sc rfl hb
  have hsp:=@Nat.succ_ne_zero;repeat' (first|simp (disch:=first|exact dq|fail) only [go_sem,↓reduceIte,hsp,hn,hm,ha]|refine WP_drw ?_|refine cnd_intro (fun hsp=>?_) fun hsp=>?_)
  exact ⟨.app .refl,.inl (.inr ⟨h.length,0,rfl,get_eq rfl,Nat.le_refl _,hl1⟩)⟩
theorem run_eqR0 {base:Nat} {h:Heap} {a b:AVal} {l:List Rw3} (ha:Rows encR h a l) (hb:Rows encR h b l) (hl:l.length≤1000):callL prog raw base (.fn 124 [] []) [a,b] h=some (.bool true,h):=by
 have h1:=ha.len Fc.el23
 have h2:=hb.len Fc.el23
 have oa:=ha.one
 have ob:=hb.one
 refine callL_run func124 rfl rfl ?_
 have hsp:=@Nat.succ_ne_zero;repeat' (first|simp (disch:=first|exact dq|fail) only [go_sem,↓reduceIte,hsp,h1,h2]|refine WP_drw ?_|refine cnd_intro (fun hsp=>?_) fun hsp=>?_)
 refine WP_count [(4,5),(13,25)] 0 l.length (Nat.zero_le _) (fun H0 n fr h'=>fr 13=.int .i64 (n:Int)∧h'=H0) ?_ ?_ ?_
 ·exact ⟨by (simp (disch:=first|exact dq|fail) only [go_sem,↓reduceIte,Int.natCast_zero];first|done|rfl),rfl⟩
 ·rintro n fr H hn0 hn hA ⟨r13,eH⟩
  subst eH
  have p0:=hA 0 rfl
  have p1:=hA 1 rfl
  have p12:=hA 12 rfl
  try simp (disch:=first|exact dq|fail) only [go_sem,↓reduceIte] at p0 p1 p12
  have hlt:((n:Int)<(l.length:Int))=True:=eq_true (by omega)
  have hx:=getD_some (d:=((0:Int),(0:Int),(0:Int))) hn
  obtain ⟨x,ex⟩:∃ x,x=l.getD n ((0:Int),(0:Int),(0:Int)):=⟨_,rfl⟩
  rw [← ex] at hx
  have a1:=ha.addr (P:=prog) (i:=(n:Int)) Fc.el23 Fc.ar23 (by omega) (by omega)
  have a2:=hb.addr (P:=prog) (i:=(n:Int)) Fc.el23 Fc.ar23 (by omega) (by omega)
  rw [Int.toNat_natCast] at a1 a2
  have d1:loadP prog H 28 (elAdr a encR.z n 0)=some (.agg [.int .i64 x.1,.int .i64 x.2.1,.int .i64 x.2.2]):=ha.load (P:=prog) Fc.ty28 hx
  have d2:loadP prog H 28 (elAdr b encR.z n 0)=some (.agg [.int .i64 x.1,.int .i64 x.2.1,.int .i64 x.2.2]):=hb.load (P:=prog) Fc.ty28 hx
  have hsp:=@Nat.succ_ne_zero;repeat' (first|simp (disch:=first|exact dq|fail) only [go_sem,↓reduceIte,hsp,r13,p0,p1,p12,hlt,a1,a2,d1,d2,Fc.ne28,eq_self,and_self,not_true,decide_false]|refine WP_drw ?_|refine cnd_intro (fun hsp=>?_) fun hsp=>?_)
  exact ⟨agq,by omega⟩
 ·rintro fr H hA ⟨r13,eH⟩
  subst eH
  have p0:=hA 0 rfl
  have p1:=hA 1 rfl
  have p12:=hA 12 rfl
  try simp (disch:=first|exact dq|fail) only [go_sem,↓reduceIte] at p0 p1 p12
  have hlt:((l.length:Int)<(l.length:Int))=False:=eq_false (by omega)
  have hsp:=@Nat.succ_ne_zero;repeat' (first|simp (disch:=first|exact dq|fail) only [go_sem,↓reduceIte,hsp,r13,p0,p1,p12,hlt]|refine WP_drw ?_|refine cnd_intro (fun hsp=>?_) fun hsp=>?_)
  exact fB rfl
theorem run_eqR {base:Nat} {h:Heap} {a b:AVal} {l:List Rw3} (ha:Rows encR h a l) (hb:Rows encR h b l) (hl:l.length≤1000):callL prog raw base (.fn 103 [] []) [a,b] h=some (.bool true,h):=by
 have e:=fun base=>run_eqR0 (base:=base) ha hb hl
 refine callL_run func103 rfl rfl ?_
 have hsp:=@Nat.succ_ne_zero;repeat' (first|simp (disch:=first|exact dq|fail) only [go_sem,↓reduceIte,hsp,e]|refine WP_drw ?_|refine cnd_intro (fun hsp=>?_) fun hsp=>?_)
 exact fB rfl
theorem run_same {base:Nat} {h:Heap} {v w:AVal} {L:Lac} (hv:LacAt h v L) (hw:LacAt h w L) (hl:L.R.length≤1000):callL prog raw base (.fn 57 [] []) [v,w] h=some (.bool true,h):=by
 obtain ⟨cv,rv,rfl,hC,hR⟩:=hv
 obtain ⟨cw,rw',rfl,hC2,hR2⟩:=hw
 have o1:=hC.one
 have o2:=hR.one
 have o3:=hC2.one
 have o4:=hR2.one
 obtain ⟨G,eG⟩:∃ G,G=h++[lacB L.T cv rv]++[lacB L.T cw rw']:=⟨_,rfl⟩
 have xG:Ext h G:=by rw [eG];exact .app (.app .refl)
 have g0:G[h.length]?=some (lacB L.T cv rv):=by rw [eG];exact get_app (get_eq rfl)
 have g1:G[h.length+1]?=some (lacB L.T cw rw'):=by rw [eG];exact get_eq (by simp)
 have e1:=fun base=>run_eqI (base:=base) (hC.ext xG) (hC2.ext xG)
 rw [decide_eq_true rfl] at e1
 have e2:=fun base=>run_eqR (base:=base) (hR.ext xG) (hR2.ext xG) hl
 unfold lacB at eG g0 g1
 refine callL_run func57 rfl rfl ?_
 have hsp:=@Nat.succ_ne_zero;repeat' (first|simp (disch:=first|exact dq|fail) only [go_sem,↓reduceIte,hsp,← eG,g0,g1,eq_self,decide_true,e1,e2]|refine WP_drw ?_|refine cnd_intro (fun hsp=>?_) fun hsp=>?_)
 exact fB rfl xG
theorem run_own {base:Nat} {h:Heap} {v:AVal} {L:Lac} (hb:base≤h.length) (hL:LacAt h v L) (hc:L.C.length≤1000) (hl:L.R.length≤1000) :
  Ret prog raw base (.fn 49 [] []) [v] h (fun w H=>Ext h H∧∃ cw rw',w=.agg [.int .i64 L.T,cw,rw']∧OwnE encI 3 h.length H cw L.C∧OwnE encR 28 h.length H rw' L.R):=by
 obtain ⟨cv,rv,rfl,hC,hR⟩:=hL
 have o1:=hC.one
 have o2:=hR.one
 obtain ⟨G,eG⟩:∃ G,G=h++[lacB L.T cv rv]++[lacB 0 (.slice none 0 0) (.slice none 0 0)]:=⟨_,rfl⟩
 have xG:Ext h G:=by rw [eG];exact .app (.app .refl)
 have lG:G.length=h.length+2:=by rw [eG];simp
 have g0:G[h.length]?=some (lacB L.T cv rv):=by rw [eG];exact get_app (get_eq rfl)
 have g00:G[h.length+1]?=some (lacB 0 (.slice none 0 0) (.slice none 0 0)):=by rw [eG];exact get_eq (by simp)
 obtain ⟨cw,H1,e1,x1,oC⟩:=run_dupI (base:=base) (by omega) (hC.ext xG) hc
 have l1:=x1.len
 obtain ⟨rw',H2,e2,x2,oR⟩:=run_dupR (base:=base) (by omega) (hR.ext (xG.trans x1)) hl
 have l2:=x2.len
 have g1:=x1.get g0
 have g2:=x2.get g1
 have g12:=(x1.trans x2).get g00
 have ow1:=oC.one
 have ow2:=oR.one
 have xf:Ext h H2:=(xG.trans x1).trans x2
 unfold lacB at eG g0 g00 g1 g2 g12
 refine ret_raw func49 rfl (by kernel_rfl) ?_
 have hsp:=@Nat.succ_ne_zero;repeat' (first|simp (disch:=first|exact dq|fail) only [go_sem,↓reduceIte,hsp,← eG,g0,e1,g1,e2,g2,g12]|refine WP_drw ?_|refine cnd_intro (fun hsp=>?_) fun hsp=>?_)
 exact ⟨xf.set (by omega),cw,rw',rfl,((oC.ext x2).setBox g12).low (by omega),(oR.setBox g12).low (by omega)⟩
end Go.AM
namespace Go.AM
open Go.Proofs.Tryz
attribute [-go_sem] put_ne put_same
attribute [local go_sem ↓] put_if
def moreR (L:Lac) (r:Rw3):Lac:=⟨L.T,L.C,L.R++[r]⟩
def lac0:Lac:=⟨0,[],[]⟩
def seeE (L:Lac) (r:Rw3):Lac × Int:=if chkL L=0 then (if L.R.length=12 then (lac0,9) else if chkL (moreR L r)=0 then (moreR L r,0) else (lac0,chkL (moreR L r))) else (lac0,chkL L)
def OwnC (b:Nat) (H:Heap) (v:AVal) (L:Lac):Prop:=∃ cv rv,v=.agg [.int .i64 L.T,cv,rv]∧OwnE encI 3 b H cv L.C∧OwnE encR 28 b H rv L.R
theorem OwnC.at {b:Nat} {H:Heap} {v:AVal} {L:Lac} (x:OwnC b H v L) (hs:Small L.C) (hl:L.R.length≤1000000):LacAt H v L:=by
 obtain ⟨cv,rv,h1,h2,h3⟩:=x
 exact ⟨cv,rv,h1,ownE_ints h2 hs,h3.rows (by omega)⟩
theorem lac_small {L:Lac} (h:chkL L=0):Small L.C:=by
 obtain ⟨kT,kn,km,kc,kr,kd⟩:=chkL_iff.1 h
 refine ⟨by omega,fun x hx=>?_⟩
 have h1:=kc x hx
 have h2:(2:Int) ^ L.T.toNat≤2 ^ 8:=by exact_mod_cast Nat.pow_le_pow_right (by decide) (show L.T.toNat≤8 by omega)
 omega
set_option maxRecDepth 100000 in
set_option maxHeartbeats 4000000 in
theorem run_See {base:Nat} {h:Heap} {v:AVal} {L:Lac} {r:Rw3} (hb:base≤h.length) (hL:LacAt h v L) :
  Ret prog raw base (.fn 56 [] []) [v,.agg [.int .i64 r.1,.int .i64 r.2.1,.int .i64 r.2.2]] h (fun w H=>Ext h H∧∃ x,w=.tuple [x,.int .i64 (seeE L r).2]∧OwnC h.length H x (seeE L r).1):=by
 have hL0:=hL
 obtain ⟨cv,rv,rfl,hC,hR⟩:=hL
 have o1:=hC.one
 have o2:=hR.one
 obtain ⟨G,eG⟩:∃ G,G=h++[lacB L.T cv rv]++[rwB r]++[lacB 0 (.slice none 0 0) (.slice none 0 0)]:=⟨_,rfl⟩
 have xG:Ext h G:=by rw [eG];exact .app (.app (.app .refl))
 have lG:G.length=h.length+3:=by rw [eG];simp
 have g0:G[h.length]?=some (lacB L.T cv rv):=by rw [eG];exact get_app (get_app (get_eq rfl))
 have g1:G[h.length+1]?=some (rwB r):=by rw [eG];exact get_app (get_eq (by simp))
 have g2:G[h.length+1+1]?=some (lacB 0 (.slice none 0 0) (.slice none 0 0)):=by rw [eG];exact get_eq (by simp)
 have c0:=fun base=>run_Check (base:=base) (hL0.ext xG)
 have hlr:=(hR.ext xG).len (P:=prog) Fc.el23
 unfold lacB rwB at eG
 have g0':=g0
 have g1':=g1
 have g2':=g2
 unfold lacB at g0' g2'
 unfold rwB at g1'
 refine ret_raw func56 rfl (by kernel_rfl) ?_
 by_cases c:chkL L=0
 ·by_cases c2:L.R.length=12
  ·have t2:((L.R.length:Int)=12)=True:=eq_true (by omega)
   have re:seeE L r=(lac0,9):=by unfold seeE;rw [if_pos c,if_pos c2]
   rw [re]
   rw [c] at c0
   have hsp:=@Nat.succ_ne_zero;repeat' (first|simp (disch:=first|exact dq|fail) only [go_sem,↓reduceIte,hsp,← eG,g0',c0,eq_self,hlr,t2,g2']|refine WP_drw ?_|refine cnd_intro (fun hsp=>?_) fun hsp=>?_)
   exact ⟨xG.set (by omega),_,rfl,_,_,rfl,.inl Own.nil,.inl Own.nil⟩
  ·have t2:((L.R.length:Int)=12)=False:=eq_false (by omega)
   obtain ⟨kT,kn,km,kc,kr,kd⟩:=chkL_iff.1 c
   obtain ⟨cw,H1,e1,x1,oC⟩:=run_cloneE (base:=base) (hC.ext xG) (lac_small c)
   have l1:=x1.len
   have oc1:=oC.one
   have g01:=x1.get g0'
   obtain ⟨H2,eH2⟩:∃ H2,H2=H1.set h.length (lacB L.T cw rv):=⟨_,rfl⟩
   have x2:Ext h H2:=by rw [eH2];exact (xG.trans x1).set (Nat.le_refl _)
   have l2:H2.length=H1.length:=by rw [eH2,List.length_set]
   have g02:H2[h.length]?=some (lacB L.T cw rv):=by rw [eH2,List.getElem?_set_self (by omega)]
   have g12:H2[h.length+1]?=some (rwB r):=by rw [eH2,List.getElem?_set_ne (by omega)];exact x1.get g1
   have g22:H2[h.length+1+1]?=some (lacB 0 (.slice none 0 0) (.slice none 0 0)):=by rw [eH2,List.getElem?_set_ne (by omega)];exact x1.get g2
   have oC2:OwnE encI 3 (h.length+3) H2 cw L.C:=by rw [eH2];exact (oC.setBox g01).low (by omega)
   obtain ⟨rw1,H3,e3,x3,oR⟩:=run_cloneR (base:=base) (hR.ext x2) (by omega)
   have l3:=x3.len
   have or1:=oR.one
   have g13:=x3.get g12
   obtain ⟨H4,eH4⟩:∃ H4,H4=H3++[rowE encR 28 [r] 0]:=⟨_,rfl⟩
   have x4:Ext H3 H4:=by rw [eH4];exact .app .refl
   have l4:H4.length=H3.length+1:=by rw [eH4];simp
   have hx:Rows encR H4 (.slice (some ⟨H3.length,0,0⟩) 1 1) [r]:=Rows.own (by rw [eH4];exact get_eq rfl) rfl (by simp)
   obtain ⟨rw2,H5,e5,oR5,l5,kE5,or2,k5⟩:∃ w' h',appendA prog base H4 23 rw1 (.slice (some ⟨H3.length,0,0⟩) 1 1)=some (w',h')∧Own encR 28 H2.length h' w' (L.R++[r])∧H4.length≤h'.length∧(∀ G,G.length≤H2.length→Ext G H4→Ext G h')∧One w'∧KeepO encR 28 H4 h':=by
    rcases oR with oR|⟨e,e'⟩
    ·exact (oR.ext x4).appendRX (P:=prog) (base:=base) (t:=23) hx Fc.el23 encR_sc (by omega) (by omega) (by simp) (by simp;omega)
    ·rw [e,e']
     have:=app_empE (base:=base) hx (by simp) encR_sc (by simp) Fc.el23
     exact ⟨_,_,this,.inr ⟨H4.length,0,rfl,get_eq rfl,by omega,by simp⟩,by simp,fun G _ q=>q.trans (.app .refl),⟨rfl,rfl,rfl⟩,fun i y hi _=>get_app hi⟩
   have x25:Ext H2 H5:=kE5 _ (Nat.le_refl _) (x3.trans x4)
   have g05:=x25.get g02
   have g25:=x25.get g22
   obtain ⟨H6,eH6⟩:∃ H6,H6=H5.set h.length (lacB L.T cw rw2):=⟨_,rfl⟩
   have x6:Ext h H6:=by rw [eH6];exact (x2.trans x25).set (Nat.le_refl _)
   have g06:H6[h.length]?=some (lacB L.T cw rw2):=by rw [eH6,List.getElem?_set_self (lt_of_get g05)]
   have g26:H6[h.length+1+1]?=some (lacB 0 (.slice none 0 0) (.slice none 0 0)):=by rw [eH6,List.getElem?_set_ne (by omega)];exact g25
   have oC6:OwnE encI 3 (h.length+3) H6 cw L.C:=by rw [eH6];exact (oC2.ext x25).setBox g05
   have oR6:OwnE encR 28 (h.length+3) H6 rw2 (L.R++[r]):=by rw [eH6];exact (OwnE.setBox (.inl oR5) g05).low (by omega)
   have hO6:OwnC (h.length+3) H6 (.agg [.int .i64 L.T,cw,rw2]) (moreR L r):=⟨cw,rw2,rfl,oC6,oR6⟩
   have c6:=fun base=>run_Check (base:=base) (hO6.at (show Small (moreR L r).C from (lac_small c:Small L.C)) (by simp [moreR];omega))
   have hO7:∀ b,OwnC h.length (H6.set (h.length+1+1) b) (.agg [.int .i64 L.T,cw,rw2]) (moreR L r):=fun b=>⟨cw,rw2,rfl,(oC6.setBox g26).low (by omega),(oR6.setBox g26).low (by omega)⟩
   have l56:H6.length=H5.length:=by rw [eH6,List.length_set]
   unfold lacB at eH2 g02 g22 g05 eH6 g06 g26
   unfold rwB at g12 g13
   rw [c] at c0
   by_cases c3:chkL (moreR L r)=0
   ·have re:seeE L r=(moreR L r,0):=by unfold seeE;rw [if_pos c,if_neg c2,if_pos c3]
    rw [re]
    rw [c3] at c6
    have hsp:=@Nat.succ_ne_zero;repeat' (first|simp (disch:=first|exact dq|fail) only [go_sem,↓reduceIte,hsp,← eG,g0',c0,eq_self,hlr,t2,e1,g01,← eH2,g02,e3,g13,bsR1,← eH4,e5,g05,← eH6,g06,c6,g26]|refine WP_drw ?_|refine cnd_intro (fun hsp=>?_) fun hsp=>?_)
    exact ⟨x6.set (by omega),_,rfl,hO7 _⟩
   ·have t3:(chkL (moreR L r)=0)=False:=eq_false c3
    have re:seeE L r=(lac0,chkL (moreR L r)):=by unfold seeE;rw [if_pos c,if_neg c2,if_neg c3]
    rw [re]
    have hsp:=@Nat.succ_ne_zero;repeat' (first|simp (disch:=first|exact dq|fail) only [go_sem,↓reduceIte,hsp,← eG,g0',c0,eq_self,hlr,t2,e1,g01,← eH2,g02,e3,g13,bsR1,← eH4,e5,g05,← eH6,g06,c6,t3,g26]|refine WP_drw ?_|refine cnd_intro (fun hsp=>?_) fun hsp=>?_)
    exact ⟨x6.set (by omega),_,rfl,_,_,rfl,.inl Own.nil,.inl Own.nil⟩
 ·have t0:(chkL L=0)=False:=eq_false c
  have re:seeE L r=(lac0,chkL L):=by unfold seeE;rw [if_neg c]
  rw [re]
  have hsp:=@Nat.succ_ne_zero;repeat' (first|simp (disch:=first|exact dq|fail) only [go_sem,↓reduceIte,hsp,← eG,g0',c0,t0,g2']|refine WP_drw ?_|refine cnd_intro (fun hsp=>?_) fun hsp=>?_)
  exact ⟨xG.set (by omega),_,rfl,_,_,rfl,.inl Own.nil,.inl Own.nil⟩
end Go.AM
namespace Go.AM
open Go.Proofs.Tryz
attribute [-go_sem] put_ne put_same
attribute [local go_sem ↓] put_if
theorem idx_Z {base b:Nat} {h:Heap} {v g:AVal} {ts:List (List Int)} (p:List Int→Bool) (hb:base≤h.length) (h1:One g) (hA:AllI b h v ts) (hl:ts.length<2 ^ 60)
  (hg:∀ x t,t ∈ ts→OwnE encI 3 0 h x t→callL prog raw base g [x] h=some (.bool (p t),h)) :
  callL prog raw base (.fn 22 [] []) [v,g] h=some (.int .i64 (idx p ts),h):=by
 obtain ⟨vs,hO,hvl,hel⟩:=hA
 have hR:=hO.rows (by omega)
 obtain ⟨w,H,e,k,z,rfl,hz⟩:=idxS_Z (base:=base) (A:=0) (pr:=fun _=>True) (J:=fun n H=>H=h∧∀ x ∈ ts.take n,p x=false) (S:=fun n H=>H=h∧∃ hn:n<ts.length,(∀ x ∈ ts.take n,p x=false)∧p ts[n]=true) hb h1 (fun n H q=>q.1 ▸ hR)
  (fun n x H hx hH hJ=>by
   obtain ⟨rfl,hJ⟩:=hJ
   have hn:n<ts.length:=by have:=(List.getElem?_eq_some_iff.1 hx).1;omega
   have ho:=hel n x _ hx (List.getElem?_eq_getElem hn)
   rw [norm_one ho.one]
   exact ⟨_,_,hg x _ (List.getElem_mem _) ho,KeepP.refl,fun q=>⟨rfl,take_next p hn hJ q⟩,fun q=>⟨rfl,hn,hJ,q⟩⟩)
  ⟨rfl,fun x hx=>by simp at hx⟩
 rw [e]
 rcases hz with ⟨rfl,rfl,q⟩|⟨n,rfl,hn,rfl,hn2,q1,q2⟩
 ·rw [hvl] at q
  rw [idx_miss p q]
 ·rw [idx_hit p hn2 q1 q2]
theorem run_pil1 {base a b:Nat} {h:Heap} {y ov:AVal} {o pile:List Int} {k:Int} (ga:h[a]?=some ⟨.cells [ov] 22 false false,0⟩) (gb:h[b]?=some (nB k)) (hO:Ints h ov o) (hY:Ints h y pile) (h0:pile ≠ []) (hin:∀ x ∈ pile,0≤x∧x<(o.length:Int)) :
  callL prog raw base (.fn 23 [] [.ptr (some ⟨a,0,0⟩),.ptr (some ⟨b,0,0⟩)]) [y] h=some (.bool (decide (topV o pile > k)),h):=by
 have la:=lt_of_get ga
 have lb:=lt_of_get gb
 have oy:=hY.one
 have oo:=hO.one
 have hyl:=hY.1.1
 have hpos:0<pile.length:=by cases z:pile with|nil=>exact absurd z h0|cons a b=>simp
 have hl:=lenI hY
 have t3:((pile.length:Int)-1)=((pile.length-1:Nat):Int):=by omega
 have a1:=adrI (i:=((pile.length-1:Nat):Int)) (by omega) hY (by omega)
 rw [Int.toNat_natCast] at a1
 have l1:=loadI hY (i:=pile.length-1) (by omega)
 obtain ⟨p,ep⟩:∃ p,p=pile.getD (pile.length-1) 0:=⟨_,rfl⟩
 rw [← ep] at l1
 have hp:=hin p (by rw [ep];exact getD_mem (by omega))
 have a2:=adrI (i:=p) (by omega) hO (by omega)
 have l2:=loadI hO (i:=p.toNat) (by omega)
 have elast:pile.getLastD 0=p:=by
  rw [ep,List.getLastD_eq_getLast?,List.getLast?_eq_getElem?,List.getD_eq_getElem?_getD]
 have htop:topV o pile=o.getD p.toNat 0:=by
  unfold topV
  rw [elast]
 unfold nB at gb
 rw [htop]
 refine callL_run func23 rfl rfl ?_
 have hsp:=@Nat.succ_ne_zero;repeat' (first|simp (disch:=first|exact dq|fail) only [go_sem,↓reduceIte,hsp,ga,gb,hl,t3,a1,l1,a2,l2]|refine WP_drw ?_|refine cnd_intro (fun hsp=>?_) fun hsp=>?_)
 exact fB rfl
end Go.AM
namespace Go.AM
open Go.Proofs.Tryz
attribute [-go_sem] put_ne put_same
attribute [local go_sem ↓] put_if
theorem asun_ne {α β:Type} {E:Enc α} {E2:Enc β} {e e2 b b2:Nat} {H:Heap} {v w:AVal} {l:List α} {m:List β} (x:Own E e b H v l) (y:Own E2 e2 b2 H w m) (hne:e ≠ e2):Asun v w:=by
 intro r n c s k d q1 q2 q3
 rcases x with ⟨x1,_⟩|⟨i1,v1,x1,g1,_⟩
 ·rw [x1] at q1;cases q1
 ·rcases y with ⟨y1,_⟩|⟨i2,v2,y1,g2,_⟩
  ·rw [y1] at q2;cases q2
  ·rw [x1] at q1
   rw [y1] at q2
   cases q1
   cases q2
   have q3:i1=i2:=q3
   subst q3
   rw [g1] at g2
   simp [rowE] at g2
   exact hne g2.1.2
theorem asun_lt {α β:Type} {E:Enc α} {E2:Enc β} {e e2 b b2:Nat} {H H2:Heap} {v w:AVal} {l:List α} {m:List β} (x:Own E e b H v l) (y:Own E2 e2 b2 H2 w m) (h:H.length≤b2):Asun v w:=by
 intro r n c s k d q1 q2 q3
 rcases x with ⟨x1,_⟩|⟨i1,v1,x1,g1,_⟩
 ·rw [x1] at q1;cases q1
 ·rcases y with ⟨y1,_⟩|⟨i2,v2,y1,g2,hb,_⟩
  ·rw [y1] at q2;cases q2
  ·rw [x1] at q1
   rw [y1] at q2
   cases q1
   cases q2
   have q3:i1=i2:=q3
   have:=lt_of_get g1
   omega
theorem bsM1 {lit:Bool} {H:Heap} {a b:Int}:bsA prog lit H 37 1 [(0,.agg [.int .i64 a,.int .i64 b])]=some (.slice (some ⟨H.length,0,0⟩) 1 1,H++[rowE encM 41 [(a,b)] 0]):=by
 simp [bsA,rowOf,Fc.el37,fillA,repCells,AVal.isN,AVal.cells,splice,rowE,flat,encM]
theorem part_ints {id ver:Nat} {H:Heap} {l:List Int} {z:Int} (hg:H[id]?=some (iB (l++[z]) ver)) (hs:Small l):Ints H (.slice (some ⟨id,ver,0⟩) l.length (l.length+1)) l:=by
 refine ⟨⟨by have:=hs.1;omega,hs.2⟩,.inr (.inr ⟨⟨id,ver,0⟩,l.length+1,ints (l++[z]),3,true,false,rfl,hg,?_,?_,by omega⟩)⟩
 ·rw [List.drop_zero,← ints_app,List.take_left' (by simp [ints])]
 ·simp [ints]
theorem getD_app1 {l m:List Int} {j:Nat} (h:j<l.length):(l++m).getD j 0=l.getD j 0:=by
 rw [List.getD_eq_getElem?_getD,List.getElem?_append_left h,← List.getD_eq_getElem?_getD]
def mndE (o:List Int):List (Int × Int) × Int:=if aloL o=0 then (mndL o,0) else ([],aloL o)
theorem mndN_succ {s:MndS} {k:Nat}:mndN s (k+1)=mndS (mndN s k) (k:Int):=rfl
set_option maxRecDepth 100000 in
set_option maxHeartbeats 8000000 in
theorem run_Mend {base:Nat} {h:Heap} {v:AVal} {o:List Int} (hb:base≤h.length) (hI:Ints h v o) :
  Ret prog raw base (.fn 8 [] []) [v] h (fun w H=>Ext h H∧∃ x,w=.tuple [x,.int .i64 (mndE o).2]∧Own encM 41 h.length H x (mndE o).1):=by
 have ha:=fun base=>run_alone (base:=base) hI
 have hv1:=hI.one
 by_cases c:aloL o=0
 ·obtain ⟨c1,c2,c3⟩:=aloL_iff.1 c
  rw [c] at ha
  have r:mndE o=(mndL o,0):=by unfold mndE;rw [if_pos c]
  rw [r]
  obtain ⟨n,en⟩:∃ n,o.length=n:=⟨_,rfl⟩
  rw [en] at c3
  obtain ⟨w1,H1,e1,x1,o1⟩:=run_rise hb hI (by omega) (by omega)
  have l1:=x1.len
  have ow1:=o1.one
  obtain ⟨rs,ers⟩:∃ rs,rs=riseL o:=⟨_,rfl⟩
  rw [← ers] at o1
  have hrp:∀ p ∈ rs,0≤p∧p<(n:Int):=fun p hp=>by
   have:=(riseL_is o).1.2 p (by rw [← ers];exact hp)
   rw [en] at this;exact this
  have hrn:rs.length≤n:=by
   have h1:=(riseP_iff.1 (riseL_is o).1).1.length_le
   rw [← ers,upto_len,en] at h1;exact h1
  have i1:=own_ints o1 ⟨by omega,fun x hx=>by have:=hrp x hx;omega⟩
  have hl1:=lenI i1
  refine ret_raw func8 rfl (by kernel_rfl) ?_
  have hsp:=@Nat.succ_ne_zero;repeat' (first|simp (disch:=first|exact dq|fail) only [go_sem,↓reduceIte,hsp,ha,eq_self,e1,hl1]|refine WP_drw ?_|refine cnd_intro (fun hsp=>?_) fun hsp=>?_)
  obtain ⟨b,eb⟩:∃ b,b=H1.length:=⟨_,rfl⟩
  obtain ⟨kp,ekp⟩:∃ kp,kp=rs.map fun p=>o.getD p.toNat 0:=⟨_,rfl⟩
  have hov:∀ p:Nat,p<n→0≤o.getD p 0∧o.getD p 0<(n:Int):=fun p hp=>c3.2.1 _ (getD_mem (by omega))
  refine WP_count [(5,7),(24,35)] 0 rs.length (Nat.zero_le _) (fun _ i fr K=>fr 24=.int .i64 (i:Int)∧Ext H1 K∧∃ w,fr 5=w∧Own encI 3 b K w ((rs.take i).map fun p=>o.getD p.toNat 0)) ?_ ?_ ?_
  ·exact ⟨by (simp (disch:=first|exact dq|fail) only [go_sem,↓reduceIte,Int.natCast_zero];first|done|rfl),.refl,.slice none 0 0,by simp (disch:=first|exact dq|fail) only [go_sem,↓reduceIte],Own.nil⟩
  ·rintro i fr K hi0 hi hA ⟨r24,xK,w,r5,hO⟩
   have q0:=hA 0 rfl
   have q2:=hA 2 rfl
   have q3:=hA 3 rfl
   have q22:=hA 22 rfl
   have q23:=hA 23 rfl
   try simp (disch:=first|exact dq|fail) only [go_sem,↓reduceIte] at q0 q2 q3 q22 q23
   have hlt:((i:Int)<(rs.length:Int))=True:=eq_true (by omega)
   have ow:=hO.one
   have lK:=xK.len
   have iK:=i1.ext xK
   have ai:=adrI (i:=(i:Int)) (by omega) iK (by omega)
   rw [Int.toNat_natCast] at ai
   have li:=loadI iK hi
   obtain ⟨p,ep⟩:=Int.eq_ofNat_of_zero_le (hrp _ (getD_mem hi)).1
   have hpn:=(hrp _ (getD_mem hi)).2
   rw [ep] at li hpn
   have hoK:=hI.ext (x1.trans xK)
   have ap:=adrI (i:=(p:Int)) (by omega) hoK (by omega)
   rw [Int.toNat_natCast] at ap
   have lp:=loadI hoK (i:=p) (by omega)
   obtain ⟨w',K2,ea,oW,lW,eW,oneW,kW⟩:=OwnE.snocI (base:=base) (x:=o.getD p 0) (.inl hO) (by omega) (by omega) (by simp;omega)
   have htk:(rs.take (i+1)).map (fun p=>o.getD p.toNat 0)=(rs.take i).map (fun p=>o.getD p.toNat 0)++[o.getD p 0]:=by
    rw [take_succ' hi,List.map_append,List.map_cons,List.map_nil,ep,Int.toNat_natCast]
   have hsp:=@Nat.succ_ne_zero;repeat' (first|simp (disch:=first|exact dq|fail) only [go_sem,↓reduceIte,hsp,r24,r5,q0,q2,q3,q22,q23,hlt,ai,li,ap,lp,ea]|refine WP_drw ?_|refine cnd_intro (fun hsp=>?_) fun hsp=>?_)
   exact ⟨agq,by omega,eW _ (by omega) xK,w',rfl,by rw [htk];exact oW⟩
  ·rintro fr K hA ⟨r24,xK,w,r5,hO⟩
   have q0:=hA 0 rfl
   have q2:=hA 2 rfl
   have q3:=hA 3 rfl
   have q22:=hA 22 rfl
   have q23:=hA 23 rfl
   try simp (disch:=first|exact dq|fail) only [go_sem,↓reduceIte] at q0 q2 q3 q22 q23
   have hlt:((rs.length:Int)<(rs.length:Int))=False:=eq_false (by omega)
   rw [List.take_length,← ekp] at hO
   have ow:=hO.one
   have hoK:=hI.ext (x1.trans xK)
   have hloK:=lenI hoK
   have lK:=xK.len
   obtain ⟨s0,es0⟩:∃ s0,s0=(⟨o,kp,[]⟩:MndS):=⟨_,rfl⟩
   have hml:mndL o=(mndN s0 n).out:=by unfold mndL;rw [en,es0,ekp,ers]
   have hok:∀ {k},k≤n→MndI n o kp k (mndN s0 k):=fun {k} hk=>by
    have:=mndN_ok (n:=n) (o0:=o) c3 hk
    rw [es0,ekp,ers];exact this
   have hkl:kp.length≤n:=by rw [ekp,List.length_map];exact hrn
   rw [hml]
   have q0:=hA 0 rfl
   simp (disch:=first|exact dq|fail) only [go_sem,↓reduceIte] at q0
   have hkpb:∀ x ∈ kp,0≤x∧x<(n:Int):=fun x hx=>by
    rw [ekp] at hx
    obtain ⟨p,hp,rfl⟩:=List.mem_map.1 hx
    have:=hrp p hp
    exact hov p.toNat (by omega)
   have hsp:=@Nat.succ_ne_zero;repeat' (first|simp (disch:=first|exact dq|fail) only [go_sem,↓reduceIte,hsp,r24,r5,q0,q0,q2,q3,q22,q23,hlt,hloK]|refine WP_drw ?_|refine cnd_intro (fun hsp=>?_) fun hsp=>?_)
   refine WP_count [(0,0),(5,15),(38,90)] 0 o.length (Nat.zero_le _) (fun _ k fr K=>fr 38=.int .i64 (k:Int)∧Ext H1 K∧∃ v' w u,fr 0=v'∧fr 5=w∧fr 8=u∧(Ints h v' (mndN s0 k).o ∨ (Own encI 3 b K v' (mndN s0 k).o∧Asun w v'))∧Own encI 3 b K w (mndN s0 k).kept∧(mndN s0 k).kept.length≤n+k∧Own encM 41 b K u (mndN s0 k).out) ?_ ?_ ?_
   ·exact ⟨by (simp (disch:=first|exact dq|fail) only [go_sem,↓reduceIte,Int.natCast_zero];first|done|rfl),xK,v,w,.slice none 0 0,by simp (disch:=first|exact dq|fail) only [go_sem,↓reduceIte,q0],by simp (disch:=first|exact dq|fail) only [go_sem,↓reduceIte,r5],by simp (disch:=first|exact dq|fail) only [go_sem,↓reduceIte],.inl (by rw [es0];exact hI),by rw [es0];exact hO,by rw [es0];exact hkl,by rw [es0];exact Own.nil⟩
   ·rintro k fr2 K2 hk0 hk hA2 ⟨r38,xK2,v',w2,u,r0,r5',r8,hV,hW,hWl,hU⟩
    have d2:=hA2 2 rfl
    have d3:=hA2 3 rfl
    have d37:=hA2 37 rfl
    try simp (disch:=first|exact dq|fail) only [go_sem,↓reduceIte,q2,q3] at d2 d3 d37
    have hlt2:((k:Int)<(o.length:Int))=True:=eq_true (by omega)
    obtain ⟨s,es⟩:∃ s,s=mndN s0 k:=⟨_,rfl⟩
    have hsk:=hok (k:=k) (by omega)
    rw [← es] at hV hW hWl hU hsk
    have hnext:mndN s0 (k+1)=mndS s (k:Int):=by rw [mndN_succ,← es]
    have hord:=hsk.ord
    have hsl:=hord.1
    have hsm:Small s.o:=⟨by omega,fun x hx=>by have:=hord.2.1 x hx;omega⟩
    have hkb:∀ x ∈ s.kept,0≤x∧x<(n:Int):=fun x hx=>by
     rcases (hsk.kept x).1 hx with z|z
     ·exact hkpb x z
     ·omega
    have hout:s.out.length≤n:=Nat.le_trans hsk.few (Nat.le_trans List.countP_le_length (by rw [upto_len];omega))
    have xh2:=x1.trans xK2
    have iV:Ints K2 v' s.o:=hV.elim (fun z=>z.ext xh2) (fun z=>own_ints z.1 hsm)
    have hsmW:Small s.kept:=⟨by omega,fun x hx=>by have:=hkb x hx;omega⟩
    have iW:=own_ints hW hsmW
    have ov':=iV.one
    have ow2:=hW.one
    have ou:=hU.one
    have lK2:=xK2.len
    have hct:=fun base=>run_contains (base:=base) (x:=(k:Int)) iW
    by_cases m:(k:Int) ∈ s.kept
    ·rw [decide_eq_true m] at hct
     have hss:mndN s0 (k+1)=s:=by rw [hnext];exact if_pos m
     have hsp:=@Nat.succ_ne_zero;repeat' (first|simp (disch:=first|exact dq|fail) only [go_sem,↓reduceIte,hsp,r38,r0,r5',r8,d2,d3,d37,q0,q2,q3,q22,q23,hlt2,hct]|refine WP_drw ?_|refine cnd_intro (fun hsp=>?_) fun hsp=>?_)
     exact ⟨agq,by omega,xK2,v',w2,u,rfl,rfl,rfl,by rw [hss];exact hV,by rw [hss];exact hW,by rw [hss];omega,by rw [hss];exact hU⟩
    ·rw [decide_eq_false m] at hct
     obtain ⟨f,ef⟩:∃ f,f=s.o.idxOf (k:Int):=⟨_,rfl⟩
     have hkm:(k:Int) ∈ s.o:=ord_all hord ⟨by omega,by omega⟩
     have hf:f<n:=by rw [ef,← hsl];exact List.idxOf_lt_length_of_mem hkm
     have hix:=fun base=>run_index (base:=base) (x:=(k:Int)) iV
     rw [show ixI s.o (k:Int)=(f:Int) by unfold ixI;rw [if_pos hkm,ef]] at hix
     obtain ⟨v1,K3,e3,x3,o3⟩:=run_cloneE (base:=base) iV hsm
     obtain ⟨id3,ver3,rfl,g3,hid3⟩:=o3.pos (by omega)
     rw [rowE_iB] at g3
     have lK3:=x3.len
     have lid3:=lt_of_get g3
     obtain ⟨w4,K4,e4,rfl,eK4⟩:=run_delete (base:=base) (i:=f) g3 (by omega) (by omega) (by omega)
     obtain ⟨e,ee⟩:∃ e,e=s.o.eraseIdx f:=⟨_,rfl⟩
     rw [← ee] at eK4
     have hel:e.length=n-1:=by rw [ee,List.length_eraseIdx,if_pos (by omega)];omega
     have heb:∀ x ∈ e,0≤x∧x<(n:Int):=fun x hx=>hord.2.1 x (by rw [ee] at hx;exact List.mem_of_mem_eraseIdx hx)
     have hes:Small e:=⟨by omega,fun x hx=>by have:=heb x hx;omega⟩
     have g4:K4[id3]?=some (iB (e++[0]) ver3):=by rw [eK4,List.getElem?_set_self lid3]
     have iR:=part_ints g4 hes
     rw [hel,show n-1+1=s.o.length by omega] at iR
     rw [show s.o.length-1=n-1 by omega] at e4
     have lR:=lenI iR
     rw [hel] at lR
     have x24:Ext K2 K4:=by rw [eK4];exact x3.set (by omega)
     have lK4:=x24.len
     have iW4:=iW.ext x24
     have ff:((f:Int)+1)=(f:Int)+1:=rfl
     have hsp:=@Nat.succ_ne_zero;repeat' (first|simp (disch:=first|exact dq|fail) only [go_sem,↓reduceIte,hsp,r38,r0,r5',r8,d2,d3,d37,q0,q2,q3,q22,q23,hlt2,hct,hix,e3,e4,lR]|refine WP_drw ?_|refine cnd_intro (fun hsp=>?_) fun hsp=>?_)
     obtain ⟨T,eT⟩:∃ T:Nat→Nat,T=mndT e s.kept (k:Int):=⟨_,rfl⟩
     refine WP_count [(11,14),(55,70)] 0 e.length (Nat.zero_le _) (fun _ j fr K=>fr 55=.int .i64 (j:Int)∧K=K4∧fr 11=.int .i64 (T j:Int)) ?_ ?_ ?_
     ·exact ⟨by (simp (disch:=first|exact dq|fail) only [go_sem,↓reduceIte,Int.natCast_zero];first|done|rfl),rfl,by rw [eT];simp (disch:=first|exact dq|fail) only [go_sem,↓reduceIte];rfl⟩
     ·rintro j fr3 K' hj0 hj hA3 ⟨r55,eK,r11⟩
      subst eK
      have c0:=hA3 0 rfl
      have c2:=hA3 2 rfl
      have c3:=hA3 3 rfl
      have c5:=hA3 5 rfl
      have c8:=hA3 8 rfl
      have c9:=hA3 9 rfl
      have c10:=hA3 10 rfl
      have c37:=hA3 37 rfl
      have c38:=hA3 38 rfl
      have c53:=hA3 53 rfl
      have c54:=hA3 54 rfl
      try simp (disch:=first|exact dq|fail) only [go_sem,↓reduceIte,d2,d3,d37] at c0 c2 c3 c5 c8 c9 c10 c37 c38 c53 c54
      have c5:=hA3 5 rfl
      simp (disch:=first|exact dq|fail) only [go_sem,↓reduceIte,r5'] at c5
      have hlt3:((j:Int)<((n-1:Nat):Int))=True:=eq_true (by omega)
      obtain ⟨x,ex⟩:∃ x,x=e.getD j 0:=⟨_,rfl⟩
      have aj:indexAddrA prog 22 (.slice (some ⟨id3,ver3,0⟩) (n-1) s.o.length) (.int .i64 (j:Int))=some (.ptr (some ⟨id3,ver3,j⟩)):=by
       rw [adr_sl Fc.el22 Fc.ar22 (by omega) (by omega),Int.toNat_natCast,Nat.mul_one,Nat.zero_add]
      have lj:loadP prog K' 3 (.ptr (some ⟨id3,ver3,j⟩))=some (.int .i64 x):=by
       rw [load_eq,Fc.ty3,g4,ldB_ints (by rw [List.length_append];omega),getD_app1 hj,ex]
      have hT:T (j+1)=if x<(k:Int)∧x ∈ s.kept then j+1 else T j:=by rw [eT,mndT,← ex]
      have hcx:=fun base=>run_contains (base:=base) (x:=x) iW4
      by_cases q1:x<(k:Int)
      ·have t1:(x<(k:Int))=True:=eq_true q1
       by_cases q2:x ∈ s.kept
       ·rw [decide_eq_true q2] at hcx
        rw [if_pos ⟨q1,q2⟩] at hT
        have hsp:=@Nat.succ_ne_zero;repeat' (first|simp (disch:=first|exact dq|fail) only [go_sem,↓reduceIte,hsp,r55,r11,c5,c0,c2,c3,c5,c8,c9,c10,c37,c38,c53,c54,d2,d3,d37,q0,q2,q3,q22,q23,hlt3,aj,lj,t1,hcx]|refine WP_drw ?_|refine cnd_intro (fun hsp=>?_) fun hsp=>?_)
        exact ⟨agq,by omega,by rw [hT];omega⟩
       ·rw [decide_eq_false q2] at hcx
        rw [if_neg (fun z=>q2 z.2)] at hT
        have hsp:=@Nat.succ_ne_zero;repeat' (first|simp (disch:=first|exact dq|fail) only [go_sem,↓reduceIte,hsp,r55,r11,c5,c0,c2,c3,c5,c8,c9,c10,c37,c38,c53,c54,d2,d3,d37,q0,q2,q3,q22,q23,hlt3,aj,lj,t1,hcx]|refine WP_drw ?_|refine cnd_intro (fun hsp=>?_) fun hsp=>?_)
        exact ⟨agq,by omega,by rw [hT]⟩
      ·have t1:(x<(k:Int))=False:=eq_false q1
       rw [if_neg (fun z=>q1 z.1)] at hT
       have hsp:=@Nat.succ_ne_zero;repeat' (first|simp (disch:=first|exact dq|fail) only [go_sem,↓reduceIte,hsp,r55,r11,c5,c0,c2,c3,c5,c8,c9,c10,c37,c38,c53,c54,d2,d3,d37,q0,q2,q3,q22,q23,hlt3,aj,lj,t1]|refine WP_drw ?_|refine cnd_intro (fun hsp=>?_) fun hsp=>?_)
       exact ⟨agq,by omega,by rw [hT]⟩
     ·rintro fr3 K' hA3 ⟨r55,eK,r11⟩
      subst eK
      have c0:=hA3 0 rfl
      have c2:=hA3 2 rfl
      have c3:=hA3 3 rfl
      have c5:=hA3 5 rfl
      have c8:=hA3 8 rfl
      have c9:=hA3 9 rfl
      have c10:=hA3 10 rfl
      have c37:=hA3 37 rfl
      have c38:=hA3 38 rfl
      have c53:=hA3 53 rfl
      have c54:=hA3 54 rfl
      try simp (disch:=first|exact dq|fail) only [go_sem,↓reduceIte,d2,d3,d37] at c0 c2 c3 c5 c8 c9 c10 c37 c38 c53 c54
      have c5:=hA3 5 rfl
      simp (disch:=first|exact dq|fail) only [go_sem,↓reduceIte,r5'] at c5
      have c0':=hA3 0 rfl
      simp (disch:=first|exact dq|fail) only [go_sem,↓reduceIte,r0] at c0'
      have c8:=hA3 8 rfl
      simp (disch:=first|exact dq|fail) only [go_sem,↓reduceIte,r8] at c8
      have c38:=hA3 38 rfl
      simp (disch:=first|exact dq|fail) only [go_sem,↓reduceIte,r38] at c38
      have hlt3:((e.length:Int)<((n-1:Nat):Int))=False:=eq_false (by omega)
      obtain ⟨t,et⟩:∃ t,t=T e.length:=⟨_,rfl⟩
      rw [← et] at r11
      have htn:t<n:=by have:=mndT_le (rest:=e) (kept:=s.kept) (k:=(k:Int)) e.length;rw [et,eT];omega
      have hstep:mndS s (k:Int)=⟨mvL s.o f t,s.kept++[(k:Int)],if f=t then s.out else s.out++[((f:Int),(t:Int))]⟩:=by
       unfold mndS
       rw [if_neg m]
       simp only [← ef,← ee]
       rw [← eT,← et]
      obtain ⟨K5,eK5⟩:∃ K5,K5=K'++[mvB (f:Int) (t:Int)]:=⟨_,rfl⟩
      have x5:Ext K' K5:=by rw [eK5];exact .app .refl
      have g5:K5[K'.length]?=some (mvB (f:Int) (t:Int)):=by rw [eK5];exact get_eq rfl
      have l5:=x5.len
      unfold mvB at eK5 g5
      have tail:∀ (K:Heap) (u':AVal) (out':List (Int × Int)),b≤K.length→Ext H1 K→Own encI 3 b K w2 s.kept→Ints K v' s.o→Own encM 41 b K u' out' →
        ∃ v2 K6 w' K7,callL prog raw base (.fn 29 [] []) [v',.agg [.int .i64 (f:Int),.int .i64 (t:Int)]] K=some (v2,K6)∧One v2∧One w'∧appendA prog base K6 22 w2 (.vals [.int .i64 (k:Int)])=some (w',K7)∧Ext H1 K7∧Own encI 3 b K7 v2 (mvL s.o f t)∧Asun w' v2∧Own encI 3 b K7 w' (s.kept++[(k:Int)])∧Own encM 41 b K7 u' out':=by
       intro K u' out' hbK xK hw hv hu
       obtain ⟨v2,K6,e6,x6,o6⟩:=run_made (base:=base) (f:=f) (t:=t) (by omega) hv (by omega) (by omega) (by omega)
       have l6:=x6.len
       have hw6:=hw.ext x6
       have ea:=app_sn1 (P:=prog) (base:=base) (y:=(k:Int)) (a:=.int .i64 (k:Int)) (t:=22) hw6 rfl rfl Fc.el22 encI_sc (by omega) (by omega)
       have hA:=asun_lt hw o6 (Nat.le_refl _)
       have hAu:=asun_ne hw6 (hu.ext x6) (by decide)
       refine ⟨v2,K6,snV K6 w2 1,snH encI 3 K6 w2 s.kept [(k:Int)],e6,o6.one,snV_one,ea,hw6.sn_ext (by omega) (xK.trans x6),(o6.sn_oth hA).low hbK,o6.sn_asun hA,hw6.sn (m:=[(k:Int)]) (by omega) (by simp),(hu.ext x6).sn_oth hAu⟩
      have xK5:=x24.trans x5
      by_cases q1:f=t
      ·have t1:((t:Int)=(f:Int))=True:=eq_true (by omega)
       rw [if_pos q1] at hstep
       obtain ⟨v2,K6,w',K7,f1,f2,f3,f4,f5,f6,f7,f8,f9⟩:=tail K5 u s.out (by omega) (xK2.trans xK5) (hW.ext xK5) (iV.ext xK5) (hU.ext xK5)
       have hsp:=@Nat.succ_ne_zero;repeat' (first|simp (disch:=first|exact dq|fail) only [go_sem,↓reduceIte,hsp,r55,r11,c5,c0',c8,c38,c0,c2,c3,c5,c8,c9,c10,c37,c38,c53,c54,d2,d3,d37,q0,q2,q3,q22,q23,hlt3,← eK5,g5,eq_self,t1,f1,f4]|refine WP_drw ?_|refine cnd_intro (fun hsp=>?_) fun hsp=>?_)
       rw [hnext,hstep]
       exact ⟨agq,by omega,f5,v2,w',u,rfl,rfl,rfl,.inr ⟨f6,f7⟩,f8,by simp;omega,f9⟩
      ·have t1:((t:Int)=(f:Int))=False:=eq_false (by omega)
       rw [if_neg q1] at hstep
       obtain ⟨K5b,eK5b⟩:∃ K5b,K5b=K5++[rowE encM 41 [((f:Int),(t:Int))] 0]:=⟨_,rfl⟩
       have x5b:Ext K5 K5b:=by rw [eK5b];exact .app .refl
       have g5b:=x5b.get g5
       have l5b:=x5b.len
       have hU5:=hU.ext (xK5.trans x5b)
       obtain ⟨u',K6u,ea,oU,lU,eU,oneU,kU⟩:=hU5.appendRX (P:=prog) (base:=base) (x:=.slice (some ⟨K5.length,0,0⟩) 1 1) (m:=[((f:Int),(t:Int))]) (t:=37) (Rows.own (by rw [eK5b];exact get_eq rfl) rfl (by simp)) Fc.el37 encM_sc (by omega) (by omega) (by simp) (by simp;omega)
       have kU:KeepO encM 41 K5b K6u:=kU
       have xK6u:Ext H1 K6u:=eU _ (by omega) (xK2.trans (xK5.trans x5b))
       have iV6:Ints K6u v' s.o:=hV.elim (fun z=>z.ext (x1.trans xK6u)) (fun z=>own_ints (kU.own (z.1.ext (xK5.trans x5b)) (by decide)) hsm)
       have hW6:=kU.own (hW.ext (xK5.trans x5b)) (show 3 ≠ 41 by decide)
       have g6u:=kU.box g5b
       obtain ⟨v2,K6,w',K7,f1,f2,f3,f4,f5,f6,f7,f8,f9⟩:=tail K6u u' (s.out++[((f:Int),(t:Int))]) (by omega) xK6u hW6 iV6 oU
       have hsp:=@Nat.succ_ne_zero;repeat' (first|simp (disch:=first|exact dq|fail) only [go_sem,↓reduceIte,hsp,r55,r11,c5,c0',c8,c38,c0,c2,c3,c5,c8,c9,c10,c37,c38,c53,c54,d2,d3,d37,q0,q2,q3,q22,q23,hlt3,← eK5,g5,eq_self,t1,bsM1,← eK5b,ea,g6u,f1,f4]|refine WP_drw ?_|refine cnd_intro (fun hsp=>?_) fun hsp=>?_)
       rw [hnext,hstep]
       exact ⟨agq,by omega,f5,v2,w',u',rfl,rfl,rfl,.inr ⟨f6,f7⟩,f8,by simp;omega,f9⟩
   ·rintro fr2 K2 hA2 ⟨r38,xK2,v',w2,u,r0,r5',r8,hV,hW,hWl,hU⟩
    have d2:=hA2 2 rfl
    have d3:=hA2 3 rfl
    have d37:=hA2 37 rfl
    try simp (disch:=first|exact dq|fail) only [go_sem,↓reduceIte,q2,q3] at d2 d3 d37
    have hlt2:((o.length:Int)<(o.length:Int))=False:=eq_false (by omega)
    have ou:=hU.one
    rw [en] at hU
    have hsp:=@Nat.succ_ne_zero;repeat' (first|simp (disch:=first|exact dq|fail) only [go_sem,↓reduceIte,hsp,r38,r8,d2,d3,d37,q0,q2,q3,q22,q23,hlt2]|refine WP_drw ?_|refine cnd_intro (fun hsp=>?_) fun hsp=>?_)
    exact ⟨x1.trans xK2,_,rfl,hU.low (by omega)⟩
 ·have t1:(aloL o=0)=False:=eq_false c
  have r:mndE o=([],aloL o):=by unfold mndE;rw [if_neg c]
  rw [r]
  refine ret_raw func8 rfl (by kernel_rfl) ?_
  have hsp:=@Nat.succ_ne_zero;repeat' (first|simp (disch:=first|exact dq|fail) only [go_sem,↓reduceIte,hsp,ha,t1]|refine WP_drw ?_|refine cnd_intro (fun hsp=>?_) fun hsp=>?_)
  exact ⟨.refl,_,rfl,Own.nil⟩
end Go.AM
