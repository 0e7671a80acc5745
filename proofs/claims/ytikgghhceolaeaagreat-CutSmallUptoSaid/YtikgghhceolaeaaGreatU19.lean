/-
  Contracts: copies and comparisons of slices of wants, cuts, spans.
-/
import Derived.Test.YtikgghhceolaeaaGreatU18
import Derived.Test.YtikgghhceolaeaaGreatU12
set_option linter.unusedSimpArgs false
set_option linter.unusedVariables false
namespace Go.AM
open Go.Proofs.Tryz
attribute [-go_sem] put_ne put_same
attribute [local go_sem ↓] put_if
theorem run_dupW {base:Nat} {h:Heap} {v:AVal} {l:List Wnt} (hb:base≤h.length) (hR:Rows encW h v l) (hl:l.length≤1000) :
  Ret prog raw base (.fn 124 [] []) [v] h (fun w H=>Ext h H∧OwnE encW 50 h.length H w l):=by
 have ho:=hR.one
 have hn:=hR.len Fc.el33
 refine ret_raw func124 rfl (by kernel_rfl) ?_
 by_cases hl0:l=[]
 ·subst hl0
  have ha:=fun base=>app_none (base:=base) hR Fc.el33
  have hsp:=@Nat.succ_ne_zero;repeat' (first|simp (disch:=first|exact dq|fail) only [go_sem,↓reduceIte,hsp,hn,mk_none Fc.el33,ha,List.length_nil,Int.natCast_zero]|refine WP_drw ?_|refine cnd_intro (fun hsp=>?_) fun hsp=>?_)
  exact ⟨.refl,.inr ⟨rfl,rfl⟩⟩
 ·have hl1:0<l.length:=List.length_pos_iff.2 hl0
  have hm:=mk_room (h:=h) (n:=l.length) Fc.el33 hl1 (by omega)
  have ha:=app_fill (base:=base) hR Fc.el33 rfl encW_sc rfl hb
  have hsp:=@Nat.succ_ne_zero;repeat' (first|simp (disch:=first|exact dq|fail) only [go_sem,↓reduceIte,hsp,hn,hm,ha]|refine WP_drw ?_|refine cnd_intro (fun hsp=>?_) fun hsp=>?_)
  exact ⟨.app .refl,.inl (.inr ⟨h.length,0,rfl,get_eq rfl,Nat.le_refl _,hl1⟩)⟩
theorem run_dupC {base:Nat} {h:Heap} {v:AVal} {l:List Ct} (hb:base≤h.length) (hR:Rows encC h v l) (hl:l.length≤1000) :
  Ret prog raw base (.fn 63 [] []) [v] h (fun w H=>Ext h H∧OwnE encC 57 h.length H w l):=by
 have ho:=hR.one
 have hn:=hR.len Fc.el51
 refine ret_raw func63 rfl (by kernel_rfl) ?_
 by_cases hl0:l=[]
 ·subst hl0
  have ha:=fun base=>app_none (base:=base) hR Fc.el51
  have hsp:=@Nat.succ_ne_zero;repeat' (first|simp (disch:=first|exact dq|fail) only [go_sem,↓reduceIte,hsp,hn,mk_none Fc.el51,ha,List.length_nil,Int.natCast_zero]|refine WP_drw ?_|refine cnd_intro (fun hsp=>?_) fun hsp=>?_)
  exact ⟨.refl,.inr ⟨rfl,rfl⟩⟩
 ·have hl1:0<l.length:=List.length_pos_iff.2 hl0
  have hm:=mk_room (h:=h) (n:=l.length) Fc.el51 hl1 (by omega)
  have ha:=app_fill (base:=base) hR Fc.el51 rfl encC_sc rfl hb
  have hsp:=@Nat.succ_ne_zero;repeat' (first|simp (disch:=first|exact dq|fail) only [go_sem,↓reduceIte,hsp,hn,hm,ha]|refine WP_drw ?_|refine cnd_intro (fun hsp=>?_) fun hsp=>?_)
  exact ⟨.app .refl,.inl (.inr ⟨h.length,0,rfl,get_eq rfl,Nat.le_refl _,hl1⟩)⟩
theorem run_eqW0 {base:Nat} {h:Heap} {a b:AVal} {l:List Wnt} (ha:Rows encW h a l) (hb:Rows encW h b l) (hl:l.length≤1000):callL prog raw base (.fn 151 [] []) [a,b] h=some (.bool true,h):=by
 have h1:=ha.len Fc.el33
 have h2:=hb.len Fc.el33
 have oa:=ha.one
 have ob:=hb.one
 refine callL_run func151 rfl rfl ?_
 have hsp:=@Nat.succ_ne_zero;repeat' (first|simp (disch:=first|exact dq|fail) only [go_sem,↓reduceIte,hsp,h1,h2]|refine WP_drw ?_|refine cnd_intro (fun hsp=>?_) fun hsp=>?_)
 refine WP_count [(4,5),(13,25)] 0 l.length (Nat.zero_le _) (fun H0 n fr h'=>fr 13=.int .i64 (n:Int)∧h'=H0) ?_ ?_ ?_
 ·exact ⟨by (simp (disch:=first|exact dq|fail) only [go_sem,↓reduceIte,Int.natCast_zero];first|done|rfl),rfl⟩
 ·rintro n fr H hn0 hn hA ⟨r13,eH⟩
  subst eH
  have p0:=hA 0 rfl
  have p1:=hA 1 rfl
  have p12:=hA 12 rfl
  try simp (disch:=first|exact dq|fail) only [go_sem,↓reduceIte] at p0 p1 p12
  have hlt:((n:Int)<(l.length:Int))=True:=eq_true (by omega)
  obtain ⟨x,ex⟩:∃ x,l[n]=x:=⟨_,rfl⟩
  have hx:l[n]?=some x:=by rw [List.getElem?_eq_getElem hn,ex]
  have a1:=ha.addr (P:=prog) (i:=(n:Int)) Fc.el33 Fc.ar33 (by omega) (by omega)
  have a2:=hb.addr (P:=prog) (i:=(n:Int)) Fc.el33 Fc.ar33 (by omega) (by omega)
  rw [Int.toNat_natCast] at a1 a2
  have d1:loadP prog H 50 (elAdr a encW.z n 0)=some (.agg [.int .i64 x.lg,.int .i64 x.pr,.int .i64 x.off,.int .i64 x.fl,.int .i64 x.jn]):=ha.load (P:=prog) Fc.ty50 hx
  have d2:loadP prog H 50 (elAdr b encW.z n 0)=some (.agg [.int .i64 x.lg,.int .i64 x.pr,.int .i64 x.off,.int .i64 x.fl,.int .i64 x.jn]):=hb.load (P:=prog) Fc.ty50 hx
  have hsp:=@Nat.succ_ne_zero;repeat' (first|simp (disch:=first|exact dq|fail) only [go_sem,↓reduceIte,hsp,r13,p0,p1,p12,hlt,a1,a2,d1,d2,Fc.ne50,eq_self,and_self,not_true,decide_false]|refine WP_drw ?_|refine cnd_intro (fun hsp=>?_) fun hsp=>?_)
  exact ⟨agq,by omega⟩
 ·rintro fr H hA ⟨r13,eH⟩
  subst eH
  have p0:=hA 0 rfl
  have p1:=hA 1 rfl
  have p12:=hA 12 rfl
  try simp (disch:=first|exact dq|fail) only [go_sem,↓reduceIte] at p0 p1 p12
  have hlt:((l.length:Int)<(l.length:Int))=False:=eq_false (by omega)
  have hsp:=@Nat.succ_ne_zero;repeat' (first|simp (disch:=first|exact dq|fail) only [go_sem,↓reduceIte,hsp,r13,p0,p1,p12,hlt]|refine WP_drw ?_|refine cnd_intro (fun hsp=>?_) fun hsp=>?_)
  exact fB rfl
theorem run_eqW {base:Nat} {h:Heap} {a b:AVal} {l:List Wnt} (ha:Rows encW h a l) (hb:Rows encW h b l) (hl:l.length≤1000):callL prog raw base (.fn 129 [] []) [a,b] h=some (.bool true,h):=by
 have e:=fun base=>run_eqW0 (base:=base) ha hb hl
 refine callL_run func129 rfl rfl ?_
 have hsp:=@Nat.succ_ne_zero;repeat' (first|simp (disch:=first|exact dq|fail) only [go_sem,↓reduceIte,hsp,e]|refine WP_drw ?_|refine cnd_intro (fun hsp=>?_) fun hsp=>?_)
 exact fB rfl
theorem run_eqC0 {base:Nat} {h:Heap} {a b:AVal} {l:List Ct} (ha:Rows encC h a l) (hb:Rows encC h b l) (hl:l.length≤1000):callL prog raw base (.fn 130 [] []) [a,b] h=some (.bool true,h):=by
 have h1:=ha.len Fc.el51
 have h2:=hb.len Fc.el51
 have oa:=ha.one
 have ob:=hb.one
 refine callL_run func130 rfl rfl ?_
 have hsp:=@Nat.succ_ne_zero;repeat' (first|simp (disch:=first|exact dq|fail) only [go_sem,↓reduceIte,hsp,h1,h2]|refine WP_drw ?_|refine cnd_intro (fun hsp=>?_) fun hsp=>?_)
 refine WP_count [(4,5),(13,25)] 0 l.length (Nat.zero_le _) (fun H0 n fr h'=>fr 13=.int .i64 (n:Int)∧h'=H0) ?_ ?_ ?_
 ·exact ⟨by (simp (disch:=first|exact dq|fail) only [go_sem,↓reduceIte,Int.natCast_zero];first|done|rfl),rfl⟩
 ·rintro n fr H hn0 hn hA ⟨r13,eH⟩
  subst eH
  have p0:=hA 0 rfl
  have p1:=hA 1 rfl
  have p12:=hA 12 rfl
  try simp (disch:=first|exact dq|fail) only [go_sem,↓reduceIte] at p0 p1 p12
  have hlt:((n:Int)<(l.length:Int))=True:=eq_true (by omega)
  obtain ⟨x,ex⟩:∃ x,l[n]=x:=⟨_,rfl⟩
  have hx:l[n]?=some x:=by rw [List.getElem?_eq_getElem hn,ex]
  have a1:=ha.addr (P:=prog) (i:=(n:Int)) Fc.el51 Fc.ar51 (by omega) (by omega)
  have a2:=hb.addr (P:=prog) (i:=(n:Int)) Fc.el51 Fc.ar51 (by omega) (by omega)
  rw [Int.toNat_natCast] at a1 a2
  have d1:loadP prog H 57 (elAdr a encC.z n 0)=some (.agg [.int .i64 x.w,.int .i64 x.f,.bool x.j]):=ha.load (P:=prog) Fc.ty57 hx
  have d2:loadP prog H 57 (elAdr b encC.z n 0)=some (.agg [.int .i64 x.w,.int .i64 x.f,.bool x.j]):=hb.load (P:=prog) Fc.ty57 hx
  have hsp:=@Nat.succ_ne_zero;repeat' (first|simp (disch:=first|exact dq|fail) only [go_sem,↓reduceIte,hsp,r13,p0,p1,p12,hlt,a1,a2,d1,d2,Fc.ne57,eq_self,and_self,not_true,decide_false]|refine WP_drw ?_|refine cnd_intro (fun hsp=>?_) fun hsp=>?_)
  exact ⟨agq,by omega⟩
 ·rintro fr H hA ⟨r13,eH⟩
  subst eH
  have p0:=hA 0 rfl
  have p1:=hA 1 rfl
  have p12:=hA 12 rfl
  try simp (disch:=first|exact dq|fail) only [go_sem,↓reduceIte] at p0 p1 p12
  have hlt:((l.length:Int)<(l.length:Int))=False:=eq_false (by omega)
  have hsp:=@Nat.succ_ne_zero;repeat' (first|simp (disch:=first|exact dq|fail) only [go_sem,↓reduceIte,hsp,r13,p0,p1,p12,hlt]|refine WP_drw ?_|refine cnd_intro (fun hsp=>?_) fun hsp=>?_)
  exact fB rfl
theorem run_eqC {base:Nat} {h:Heap} {a b:AVal} {l:List Ct} (ha:Rows encC h a l) (hb:Rows encC h b l) (hl:l.length≤1000):callL prog raw base (.fn 67 [] []) [a,b] h=some (.bool true,h):=by
 have e:=fun base=>run_eqC0 (base:=base) ha hb hl
 refine callL_run func67 rfl rfl ?_
 have hsp:=@Nat.succ_ne_zero;repeat' (first|simp (disch:=first|exact dq|fail) only [go_sem,↓reduceIte,hsp,e]|refine WP_drw ?_|refine cnd_intro (fun hsp=>?_) fun hsp=>?_)
 exact fB rfl
theorem run_eqS0 {base:Nat} {h:Heap} {a b:AVal} {l:List (Int × Int)} (ha:Rows encS h a l) (hb:Rows encS h b l) (hl:l.length≤1000):callL prog raw base (.fn 122 [] []) [a,b] h=some (.bool true,h):=by
 have h1:=ha.len Fc.el112
 have h2:=hb.len Fc.el112
 have oa:=ha.one
 have ob:=hb.one
 refine callL_run func122 rfl rfl ?_
 have hsp:=@Nat.succ_ne_zero;repeat' (first|simp (disch:=first|exact dq|fail) only [go_sem,↓reduceIte,hsp,h1,h2]|refine WP_drw ?_|refine cnd_intro (fun hsp=>?_) fun hsp=>?_)
 refine WP_count [(4,5),(13,25)] 0 l.length (Nat.zero_le _) (fun H0 n fr h'=>fr 13=.int .i64 (n:Int)∧h'=H0) ?_ ?_ ?_
 ·exact ⟨by (simp (disch:=first|exact dq|fail) only [go_sem,↓reduceIte,Int.natCast_zero];first|done|rfl),rfl⟩
 ·rintro n fr H hn0 hn hA ⟨r13,eH⟩
  subst eH
  have p0:=hA 0 rfl
  have p1:=hA 1 rfl
  have p12:=hA 12 rfl
  try simp (disch:=first|exact dq|fail) only [go_sem,↓reduceIte] at p0 p1 p12
  have hlt:((n:Int)<(l.length:Int))=True:=eq_true (by omega)
  obtain ⟨x,ex⟩:∃ x,l[n]=x:=⟨_,rfl⟩
  have hx:l[n]?=some x:=by rw [List.getElem?_eq_getElem hn,ex]
  have a1:=ha.addr (P:=prog) (i:=(n:Int)) Fc.el112 Fc.ar112 (by omega) (by omega)
  have a2:=hb.addr (P:=prog) (i:=(n:Int)) Fc.el112 Fc.ar112 (by omega) (by omega)
  rw [Int.toNat_natCast] at a1 a2
  have d1:loadP prog H 84 (elAdr a encS.z n 0)=some (.agg [.int .i64 x.1,.int .i64 x.2]):=ha.load (P:=prog) Fc.ty84 hx
  have d2:loadP prog H 84 (elAdr b encS.z n 0)=some (.agg [.int .i64 x.1,.int .i64 x.2]):=hb.load (P:=prog) Fc.ty84 hx
  have hsp:=@Nat.succ_ne_zero;repeat' (first|simp (disch:=first|exact dq|fail) only [go_sem,↓reduceIte,hsp,r13,p0,p1,p12,hlt,a1,a2,d1,d2,Fc.ne84,eq_self,and_self,not_true,decide_false]|refine WP_drw ?_|refine cnd_intro (fun hsp=>?_) fun hsp=>?_)
  exact ⟨agq,by omega⟩
 ·rintro fr H hA ⟨r13,eH⟩
  subst eH
  have p0:=hA 0 rfl
  have p1:=hA 1 rfl
  have p12:=hA 12 rfl
  try simp (disch:=first|exact dq|fail) only [go_sem,↓reduceIte] at p0 p1 p12
  have hlt:((l.length:Int)<(l.length:Int))=False:=eq_false (by omega)
  have hsp:=@Nat.succ_ne_zero;repeat' (first|simp (disch:=first|exact dq|fail) only [go_sem,↓reduceIte,hsp,r13,p0,p1,p12,hlt]|refine WP_drw ?_|refine cnd_intro (fun hsp=>?_) fun hsp=>?_)
  exact fB rfl
theorem run_eqS {base:Nat} {h:Heap} {a b:AVal} {l:List (Int × Int)} (ha:Rows encS h a l) (hb:Rows encS h b l) (hl:l.length≤1000):callL prog raw base (.fn 49 [] []) [a,b] h=some (.bool true,h):=by
 have e:=fun base=>run_eqS0 (base:=base) ha hb hl
 refine callL_run func49 rfl rfl ?_
 have hsp:=@Nat.succ_ne_zero;repeat' (first|simp (disch:=first|exact dq|fail) only [go_sem,↓reduceIte,hsp,e]|refine WP_drw ?_|refine cnd_intro (fun hsp=>?_) fun hsp=>?_)
 exact fB rfl
theorem run_eqD0 {base:Nat} {h:Heap} {a b:AVal} {l:List Ct} (ha:Rows encC h a l) (hb:Rows encC h b l) (hl:l.length≤1000):callL prog raw base (.fn 128 [] []) [a,b] h=some (.bool true,h):=by
 have h1:=ha.len Fc.el126
 have h2:=hb.len Fc.el126
 have oa:=ha.one
 have ob:=hb.one
 refine callL_run func128 rfl rfl ?_
 have hsp:=@Nat.succ_ne_zero;repeat' (first|simp (disch:=first|exact dq|fail) only [go_sem,↓reduceIte,hsp,h1,h2]|refine WP_drw ?_|refine cnd_intro (fun hsp=>?_) fun hsp=>?_)
 refine WP_count [(4,5),(13,25)] 0 l.length (Nat.zero_le _) (fun H0 n fr h'=>fr 13=.int .i64 (n:Int)∧h'=H0) ?_ ?_ ?_
 ·exact ⟨by (simp (disch:=first|exact dq|fail) only [go_sem,↓reduceIte,Int.natCast_zero];first|done|rfl),rfl⟩
 ·rintro n fr H hn0 hn hA ⟨r13,eH⟩
  subst eH
  have p0:=hA 0 rfl
  have p1:=hA 1 rfl
  have p12:=hA 12 rfl
  try simp (disch:=first|exact dq|fail) only [go_sem,↓reduceIte] at p0 p1 p12
  have hlt:((n:Int)<(l.length:Int))=True:=eq_true (by omega)
  obtain ⟨x,ex⟩:∃ x,l[n]=x:=⟨_,rfl⟩
  have hx:l[n]?=some x:=by rw [List.getElem?_eq_getElem hn,ex]
  have a1:=ha.addr (P:=prog) (i:=(n:Int)) Fc.el126 Fc.ar126 (by omega) (by omega)
  have a2:=hb.addr (P:=prog) (i:=(n:Int)) Fc.el126 Fc.ar126 (by omega) (by omega)
  rw [Int.toNat_natCast] at a1 a2
  have d1:loadP prog H 129 (elAdr a encC.z n 0)=some (.agg [.int .i64 x.w,.int .i64 x.f,.bool x.j]):=ha.load (P:=prog) Fc.ty129 hx
  have d2:loadP prog H 129 (elAdr b encC.z n 0)=some (.agg [.int .i64 x.w,.int .i64 x.f,.bool x.j]):=hb.load (P:=prog) Fc.ty129 hx
  have hsp:=@Nat.succ_ne_zero;repeat' (first|simp (disch:=first|exact dq|fail) only [go_sem,↓reduceIte,hsp,r13,p0,p1,p12,hlt,a1,a2,d1,d2,Fc.ne129,eq_self,and_self,not_true,decide_false]|refine WP_drw ?_|refine cnd_intro (fun hsp=>?_) fun hsp=>?_)
  exact ⟨agq,by omega⟩
 ·rintro fr H hA ⟨r13,eH⟩
  subst eH
  have p0:=hA 0 rfl
  have p1:=hA 1 rfl
  have p12:=hA 12 rfl
  try simp (disch:=first|exact dq|fail) only [go_sem,↓reduceIte] at p0 p1 p12
  have hlt:((l.length:Int)<(l.length:Int))=False:=eq_false (by omega)
  have hsp:=@Nat.succ_ne_zero;repeat' (first|simp (disch:=first|exact dq|fail) only [go_sem,↓reduceIte,hsp,r13,p0,p1,p12,hlt]|refine WP_drw ?_|refine cnd_intro (fun hsp=>?_) fun hsp=>?_)
  exact fB rfl
theorem run_eqD {base:Nat} {h:Heap} {a b:AVal} {l:List Ct} (ha:Rows encC h a l) (hb:Rows encC h b l) (hl:l.length≤1000):callL prog raw base (.fn 60 [] []) [a,b] h=some (.bool true,h):=by
 have e:=fun base=>run_eqD0 (base:=base) ha hb hl
 refine callL_run func60 rfl rfl ?_
 have hsp:=@Nat.succ_ne_zero;repeat' (first|simp (disch:=first|exact dq|fail) only [go_sem,↓reduceIte,hsp,e]|refine WP_drw ?_|refine cnd_intro (fun hsp=>?_) fun hsp=>?_)
 exact fB rfl
end Go.AM
namespace Go.AM
open Go.Proofs.Tryz
attribute [-go_sem] put_ne put_same
attribute [local go_sem ↓] put_if
abbrev rrbB (L:Int) (fv wv:AVal):ABlk:=⟨.cells [.int .i64 L,fv,wv] 123 false false,0⟩
abbrev rwtB (w:Wnt):ABlk:=⟨.cells [.int .i64 w.lg,.int .i64 w.pr,.int .i64 w.off,.int .i64 w.fl,.int .i64 w.jn] 189 false false,0⟩
theorem run_off {base:Nat} {h:Heap} {n lo hi:Int}:callL prog raw base (.fn 125 [] []) [.int .i64 n,.int .i64 lo,.int .i64 hi] h=some (.bool (!decide (lo≤n∧n≤hi)),h):=by
 refine callL_run func125 rfl rfl ?_
 by_cases h1:n<lo
 ·have t1:(n<lo)=True:=eq_true h1
  have hsp:=@Nat.succ_ne_zero;repeat' (first|simp (disch:=first|exact dqc|fail) only [go_sem,↓reduceIte,hsp,t1]|refine WP_drw ?_|refine cnd_intro (fun hsp=>?_) fun hsp=>?_)
  refine fB ?_
  rw [decide_eq_false (by omega)];rfl
 ·have t1:(n<lo)=False:=eq_false h1
  have hsp:=@Nat.succ_ne_zero;repeat' (first|simp (disch:=first|exact dqc|fail) only [go_sem,↓reduceIte,hsp,t1]|refine WP_drw ?_|refine cnd_intro (fun hsp=>?_) fun hsp=>?_)
  refine fB ?_
  by_cases h2:n > hi
  ·rw [decide_eq_true h2,decide_eq_false (by omega)];rfl
  ·rw [decide_eq_false h2,decide_eq_true (by omega)];rfl
section
variable {h:Heap} {wv:AVal} {W:List Wnt} {i:Nat} {w:Wnt}
theorem rwn_len (hR:Rows encW h wv W):lenOpA prog h 121 wv=some (.int .i64 (W.length:Int)):=hR.len (P:=prog) Fc.el121
theorem rwn_ad (hR:Rows encW h wv W) (hi:i<W.length):indexAddrA prog 121 wv (.int .i64 (i:Int))=some (elAdr wv encW.z i 0):=by
 have:=hR.addr (P:=prog) (i:=(i:Int)) Fc.el121 Fc.ar121 (by omega) (by omega)
 rwa [Int.toNat_natCast] at this
theorem rwn_ld (hR:Rows encW h wv W) (hx:W[i]?=some w):loadP prog h 189 (elAdr wv encW.z i 0)=some (.agg [.int .i64 w.lg,.int .i64 w.pr,.int .i64 w.off,.int .i64 w.fl,.int .i64 w.jn]):=hR.load (P:=prog) Fc.ty189 hx
theorem rwn_f0 (hR:Rows encW h wv W) (hi:i<W.length):fieldAddrA prog 189 (elAdr wv encW.z i 0) 0=some (elAdr wv encW.z i 0):=elAdr_field (P:=prog) (i:=i) (o:=0) (off:=0) (q:=false) (n:=1) hR hi (by kernel_rfl) (by decide)
theorem rwn_f1 (hR:Rows encW h wv W) (hi:i<W.length):fieldAddrA prog 189 (elAdr wv encW.z i 0) 1=some (elAdr wv encW.z i 1):=elAdr_field (P:=prog) (i:=i) (o:=0) (off:=1) (q:=false) (n:=1) hR hi (by kernel_rfl) (by decide)
theorem rwn_l0 (hR:Rows encW h wv W) (hx:W[i]?=some w):loadP prog h 3 (elAdr wv encW.z i 0)=some (.int .i64 w.lg):=hR.cell (P:=prog) Fc.ty3 hx (o:=0) (a:=.int .i64 w.lg) rfl
theorem rwn_l1 (hR:Rows encW h wv W) (hx:W[i]?=some w):loadP prog h 3 (elAdr wv encW.z i 1)=some (.int .i64 w.pr):=hR.cell (P:=prog) Fc.ty3 hx (o:=1) (a:=.int .i64 w.pr) rfl
end
theorem take_succD {l:List Int} {i:Nat} (hi:i<l.length):l.take (i+1)=l.take i++[l.getD i 0]:=by
 rw [List.take_add_one,getD_some (d:=0) hi];rfl
theorem all_takeW {α:Type} {p:α→Bool} {l:List α} {n:Nat} {x:α} (hx:l[n]?=some x) (h:(l.take n).all p=true) (hp:p x=true):(l.take (n+1)).all p=true:=by
 rw [List.take_add_one,hx]
 simp only [Option.toList,List.all_append,h,List.all_cons,hp,List.all_nil]
 rfl
theorem all_noW {α:Type} {p:α→Bool} {l:List α} {n:Nat} {x:α} (hx:l[n]?=some x) (hp:p x=false):l.all p=false:=by
 rw [Bool.eq_false_iff]
 intro h
 have:=List.all_eq_true.1 h x (List.mem_of_getElem? hx)
 rw [hp] at this;cases this
set_option maxRecDepth 100000 in
set_option maxHeartbeats 4000000 in
theorem run_rcheck {base:Nat} {h:Heap} {v:AVal} {R:Rib} (hA:RibAt h v R) (hfl:R.F.length≤1000) (hwl:R.W.length≤1000):callL prog raw base (.fn 55 [] []) [v] h=some (.int .i64 (chkR R),h):=by
 obtain ⟨fv,wv,rfl,hF,hW⟩:=hA
 have o1:=hF.one
 have o2:=hW.one
 obtain ⟨G,eG⟩:∃ G,G=h++[rrbB R.L fv wv]:=⟨_,rfl⟩
 have xG:Ext h G:=by rw [eG];exact .app .refl
 have g0:G[h.length]?=some (rrbB R.L fv wv):=by rw [eG];exact get_eq rfl
 have iF:=hF.ext xG
 have iW:=hW.ext xG
 have hn1:=lenI iF
 have hn2:=rwn_len iW
 have of0:=fun base=>run_off (base:=base) (h:=G) (n:=R.L) (lo:=1) (hi:=60)
 unfold rrbB at eG g0
 refine callL_run func55 rfl rfl ?_
 by_cases c0:1≤R.L∧R.L≤60
 ·rw [decide_eq_true c0] at of0
  by_cases c1:(R.F.length:Int) > 12
  ·have t1:((R.F.length:Int) > 12)=True:=eq_true c1
   have hsp:=@Nat.succ_ne_zero;repeat' (first|simp (disch:=first|exact dqc|fail) only [go_sem,↓reduceIte,hsp,← eG,g0,of0,Bool.not_true,hn1,t1]|refine WP_drw ?_|refine cnd_intro (fun hsp=>?_) fun hsp=>?_)
   refine fI ?_ xG
   unfold chkR
   rw [if_pos (.inr (.inl c1))]
  ·have t1:((R.F.length:Int) > 12)=False:=eq_false c1
   by_cases c2:(R.W.length:Int) > 6
   ·have t2:((R.W.length:Int) > 6)=True:=eq_true c2
    have hsp:=@Nat.succ_ne_zero;repeat' (first|simp (disch:=first|exact dqc|fail) only [go_sem,↓reduceIte,hsp,← eG,g0,of0,Bool.not_true,hn1,t1,hn2,t2]|refine WP_drw ?_|refine cnd_intro (fun hsp=>?_) fun hsp=>?_)
    refine fI ?_ xG
    unfold chkR
    rw [if_pos (.inr (.inr c2))]
   ·have t2:((R.W.length:Int) > 6)=False:=eq_false c2
    have u0:¬ (¬ (1≤R.L∧R.L≤60) ∨ (R.F.length:Int) > 12 ∨ (R.W.length:Int) > 6):=by omega
    have hsp:=@Nat.succ_ne_zero;repeat' (first|simp (disch:=first|exact dqc|fail) only [go_sem,↓reduceIte,hsp,← eG,g0,of0,Bool.not_true,hn1,t1,hn2,t2]|refine WP_drw ?_|refine cnd_intro (fun hsp=>?_) fun hsp=>?_)
    refine WP_count [(2,56)] 0 R.W.length (Nat.zero_le _) (fun _ i fr H=>fr 3=.int .i64 (i:Int)∧Ext G H∧(R.W.take i).all wntB=true) ?_ ?_ ?_
    ·exact ⟨by (simp (disch:=first|exact dqc|fail) only [go_sem,↓reduceIte,Int.natCast_zero];first|done|rfl),.refl,by simp⟩
    ·rintro i fr H hi0 hi hA ⟨r3,xH,ha⟩
     have q1:=hA 1 rfl
     try simp (disch:=first|exact dqc|fail) only [go_sem,↓reduceIte] at q1
     have hlt:((i:Int)<(R.W.length:Int))=True:=eq_true (by omega)
     have iH:=iW.ext xH
     have hnH:=rwn_len iH
     obtain ⟨w,ew⟩:∃ w,w=R.W[i]:=⟨_,rfl⟩
     have hx:R.W[i]?=some w:=by rw [ew];exact List.getElem?_eq_getElem hi
     have a1:=rwn_ad iH hi
     have b1:=rwn_ld iH hx
     have gH:=xH.get g0
     obtain ⟨K,eK⟩:∃ K,K=H++[rwtB w]:=⟨_,rfl⟩
     have xK:Ext H K:=by rw [eK];exact .app .refl
     have gK:K[H.length]?=some (rwtB w):=by rw [eK];exact get_eq rfl
     have f1:=fun base=>run_off (base:=base) (h:=K) (n:=w.lg) (lo:=1) (hi:=60)
     have f2:=fun base=>run_off (base:=base) (h:=K) (n:=w.pr) (lo:=0) (hi:=100)
     have f3:=fun base=>run_off (base:=base) (h:=K) (n:=w.off) (lo:=0) (hi:=20)
     have f4:=fun base=>run_off (base:=base) (h:=K) (n:=w.fl) (lo:=0) (hi:=4)
     have f5:=fun base=>run_off (base:=base) (h:=K) (n:=w.jn) (lo:=0) (hi:=4)
     have xf:=(xG.trans xH).trans xK
     have lGH:=(xG.trans xH).len
     unfold rwtB at eK gK
     have bad:wntB w=false→chkR R=3:=fun q=>by unfold chkR;rw [if_neg u0,if_pos (by rw [all_noW hx q];simp)]
     by_cases d1:1≤w.lg∧w.lg≤60
     ·rw [decide_eq_true d1] at f1
      by_cases d2:0≤w.pr∧w.pr≤100
      ·rw [decide_eq_true d2] at f2
       by_cases d3:0≤w.off∧w.off≤20
       ·rw [decide_eq_true d3] at f3
        by_cases d4:0≤w.fl∧w.fl≤4
        ·rw [decide_eq_true d4] at f4
         by_cases d5:0≤w.jn∧w.jn≤4
         ·rw [decide_eq_true d5] at f5
          have hsp:=@Nat.succ_ne_zero;repeat' (first|simp (disch:=first|exact dqc|fail) only [go_sem,↓reduceIte,hsp,r3,q1,gH,hnH,hlt,a1,b1,← eK,gK,f1,f2,f3,f4,f5,Bool.not_true]|refine WP_drw ?_|refine cnd_intro (fun hsp=>?_) fun hsp=>?_)
          exact ⟨agq,by omega,xH.trans xK,all_takeW hx ha (wntB_iff.2 ⟨d1,d2,d3,d4,d5⟩)⟩
         ·rw [decide_eq_false d5] at f5
          rw [bad (by unfold wntB;rw [decide_eq_false d5,Bool.and_false])]
          have hsp:=@Nat.succ_ne_zero;repeat' (first|simp (disch:=first|exact dqc|fail) only [go_sem,↓reduceIte,hsp,r3,q1,gH,hnH,hlt,a1,b1,← eK,gK,f1,f2,f3,f4,f5,Bool.not_true,Bool.not_false]|refine WP_drw ?_|refine cnd_intro (fun hsp=>?_) fun hsp=>?_)
          exact fI rfl xf
        ·rw [decide_eq_false d4] at f4
         rw [bad (by unfold wntB;rw [decide_eq_false d4];simp)]
         have hsp:=@Nat.succ_ne_zero;repeat' (first|simp (disch:=first|exact dqc|fail) only [go_sem,↓reduceIte,hsp,r3,q1,gH,hnH,hlt,a1,b1,← eK,gK,f1,f2,f3,f4,Bool.not_true,Bool.not_false]|refine WP_drw ?_|refine cnd_intro (fun hsp=>?_) fun hsp=>?_)
         exact fI rfl xf
       ·rw [decide_eq_false d3] at f3
        rw [bad (by unfold wntB;rw [decide_eq_false d3];simp)]
        have hsp:=@Nat.succ_ne_zero;repeat' (first|simp (disch:=first|exact dqc|fail) only [go_sem,↓reduceIte,hsp,r3,q1,gH,hnH,hlt,a1,b1,← eK,gK,f1,f2,f3,Bool.not_true,Bool.not_false]|refine WP_drw ?_|refine cnd_intro (fun hsp=>?_) fun hsp=>?_)
        exact fI rfl xf
      ·rw [decide_eq_false d2] at f2
       rw [bad (by unfold wntB;rw [decide_eq_false d2];simp)]
       have hsp:=@Nat.succ_ne_zero;repeat' (first|simp (disch:=first|exact dqc|fail) only [go_sem,↓reduceIte,hsp,r3,q1,gH,hnH,hlt,a1,b1,← eK,gK,f1,f2,Bool.not_true,Bool.not_false]|refine WP_drw ?_|refine cnd_intro (fun hsp=>?_) fun hsp=>?_)
       exact fI rfl xf
     ·rw [decide_eq_false d1] at f1
      rw [bad (by unfold wntB;rw [decide_eq_false d1];simp)]
      have hsp:=@Nat.succ_ne_zero;repeat' (first|simp (disch:=first|exact dqc|fail) only [go_sem,↓reduceIte,hsp,r3,q1,gH,hnH,hlt,a1,b1,← eK,gK,f1,Bool.not_true,Bool.not_false]|refine WP_drw ?_|refine cnd_intro (fun hsp=>?_) fun hsp=>?_)
      exact fI rfl xf
    ·rintro fr H hA ⟨r3,xH,ha⟩
     have q1:=hA 1 rfl
     try simp (disch:=first|exact dqc|fail) only [go_sem,↓reduceIte] at q1
     have hlt:((R.W.length:Int)<(R.W.length:Int))=False:=eq_false (by omega)
     rw [List.take_length] at ha
     have hnH:=rwn_len (iW.ext xH)
     have gH:=xH.get g0
     have iH:=iF.ext xH
     have hnF:=lenI iH
     have xh:=xG.trans xH
     have u3:¬ ¬ R.W.all wntB=true:=by rw [ha];simp
     have hsp:=@Nat.succ_ne_zero;repeat' (first|simp (disch:=first|exact dqc|fail) only [go_sem,↓reduceIte,hsp,r3,q1,gH,hnH,hlt]|refine WP_drw ?_|refine cnd_intro (fun hsp=>?_) fun hsp=>?_)
     refine WP_count [(2,72)] 0 R.F.length (Nat.zero_le _) (fun _ i fr K=>fr 5=.int .i64 (i:Int)∧K=H∧(R.F.take i).all (fun x=>decide (0≤x∧x≤R.L-1))=true) ?_ ?_ ?_
     ·exact ⟨by (simp (disch:=first|exact dqc|fail) only [go_sem,↓reduceIte,Int.natCast_zero];first|done|rfl),rfl,by simp⟩
     ·rintro i fr2 K hi0 hi hA2 ⟨r5,rfl,hb⟩
      have d1:=hA2 1 rfl
      try simp (disch:=first|exact dqc|fail) only [go_sem,↓reduceIte,q1] at d1
      have hlt2:((i:Int)<(R.F.length:Int))=True:=eq_true (by omega)
      have ai:=adrI (i:=(i:Int)) (by omega) iH (by omega)
      rw [Int.toNat_natCast] at ai
      have li:=loadI iH hi
      have hx:R.F[i]?=some (R.F.getD i 0):=getD_some hi
      have ho:=fun base=>run_off (base:=base) (h:=K) (n:=R.F.getD i 0) (lo:=0) (hi:=R.L-1)
      by_cases e1:0≤R.F.getD i 0∧R.F.getD i 0≤R.L-1
      ·rw [decide_eq_true e1] at ho
       have hsp:=@Nat.succ_ne_zero;repeat' (first|simp (disch:=first|exact dqc|fail) only [go_sem,↓reduceIte,hsp,r5,d1,q1,gH,hnF,hlt2,ai,li,ho,Bool.not_true]|refine WP_drw ?_|refine cnd_intro (fun hsp=>?_) fun hsp=>?_)
       exact ⟨agq,by omega,all_takeW hx hb (decide_eq_true e1)⟩
      ·rw [decide_eq_false e1] at ho
       have hsp:=@Nat.succ_ne_zero;repeat' (first|simp (disch:=first|exact dqc|fail) only [go_sem,↓reduceIte,hsp,r5,d1,q1,gH,hnF,hlt2,ai,li,ho,Bool.not_false]|refine WP_drw ?_|refine cnd_intro (fun hsp=>?_) fun hsp=>?_)
       refine fI ?_ xh
       unfold chkR
       rw [if_neg u0,if_neg u3,if_pos (by rw [all_noW hx (decide_eq_false e1)];simp)]
     ·rintro fr2 K hA2 ⟨r5,rfl,hb⟩
      have d1:=hA2 1 rfl
      try simp (disch:=first|exact dqc|fail) only [go_sem,↓reduceIte,q1] at d1
      have hlt2:((R.F.length:Int)<(R.F.length:Int))=False:=eq_false (by omega)
      rw [List.take_length] at hb
      have u4:¬ ¬ (R.F.all fun x=>decide (0≤x∧x≤R.L-1))=true:=by rw [hb];simp
      have hsp:=@Nat.succ_ne_zero;repeat' (first|simp (disch:=first|exact dqc|fail) only [go_sem,↓reduceIte,hsp,r5,d1,q1,gH,hnF,hlt2]|refine WP_drw ?_|refine cnd_intro (fun hsp=>?_) fun hsp=>?_)
      refine WP_count [(2,91)] 1 (max 1 R.F.length) (by omega) (fun _ i fr K2=>fr 6=.int .i64 (i:Int)∧K2=K∧∀ j,0<j→j<i→R.F.getD (j-1) 0<R.F.getD j 0) ?_ ?_ ?_
      ·exact ⟨by (simp (disch:=first|exact dqc|fail) only [go_sem,↓reduceIte,Int.natCast_zero];first|done|rfl),rfl,fun j h1 h2=>by omega⟩
      ·rintro i fr3 K2 hi0 hi hA3 ⟨r6,rfl,hs⟩
       have f1:=hA3 1 rfl
       try simp (disch:=first|exact dqc|fail) only [go_sem,↓reduceIte,d1] at f1
       have hil:i<R.F.length:=by omega
       have hlt3:((i:Int)<(R.F.length:Int))=True:=eq_true (by omega)
       have ai:=adrI (i:=(i:Int)) (by omega) iH (by omega)
       rw [Int.toNat_natCast] at ai
       have li:=loadI iH hil
       have ei:((i:Int)-1).toNat=i-1:=by omega
       have aj:=adrI (i:=(i:Int)-1) (by omega) iH (by omega)
       rw [ei] at aj
       have lj:=loadI iH (i:=i-1) (by omega)
       by_cases e1:R.F.getD i 0≤R.F.getD (i-1) 0
       ·have t3:(R.F.getD i 0≤R.F.getD (i-1) 0)=True:=eq_true e1
        have hsp:=@Nat.succ_ne_zero;repeat' (first|simp (disch:=first|exact dqc|fail) only [go_sem,↓reduceIte,hsp,r6,f1,d1,q1,gH,hnF,hlt3,ai,li,aj,lj,t3]|refine WP_drw ?_|refine cnd_intro (fun hsp=>?_) fun hsp=>?_)
        refine fI ?_ xh
        unfold chkR
        rw [if_neg u0,if_neg u3,if_neg u4,if_pos]
        intro hp
        have hp:=of_decide_eq_true (rise_iff.2 hp) i hil (by omega)
        omega
       ·have t3:(R.F.getD i 0≤R.F.getD (i-1) 0)=False:=eq_false e1
        have hsp:=@Nat.succ_ne_zero;repeat' (first|simp (disch:=first|exact dqc|fail) only [go_sem,↓reduceIte,hsp,r6,f1,d1,q1,gH,hnF,hlt3,ai,li,aj,lj,t3]|refine WP_drw ?_|refine cnd_intro (fun hsp=>?_) fun hsp=>?_)
        refine ⟨agq,by omega,fun j h1 h2=>?_⟩
        by_cases ej:j=i
        ·rw [ej];omega
        ·exact hs j h1 (by omega)
      ·rintro fr3 K2 hA3 ⟨r6,rfl,hs⟩
       have f1:=hA3 1 rfl
       try simp (disch:=first|exact dqc|fail) only [go_sem,↓reduceIte,d1] at f1
       have hlt3:(((max 1 R.F.length:Nat):Int)<(R.F.length:Int))=False:=eq_false (by omega)
       have hsp:=@Nat.succ_ne_zero;repeat' (first|simp (disch:=first|exact dqc|fail) only [go_sem,↓reduceIte,hsp,r6,f1,d1,q1,gH,hnF,hlt3]|refine WP_drw ?_|refine cnd_intro (fun hsp=>?_) fun hsp=>?_)
       refine fI ?_ xh
       unfold chkR
       rw [if_neg u0,if_neg u3,if_neg u4,if_neg]
       intro hq
       exact hq (rise_iff.1 (decide_eq_true fun i h1 h2=>hs i h2 (by omega)))
 ·rw [decide_eq_false c0] at of0
  have hsp:=@Nat.succ_ne_zero;repeat' (first|simp (disch:=first|exact dqc|fail) only [go_sem,↓reduceIte,hsp,← eG,g0,of0,Bool.not_false]|refine WP_drw ?_|refine cnd_intro (fun hsp=>?_) fun hsp=>?_)
  refine fI ?_ xG
  unfold chkR
  rw [if_pos (.inl c0)]
end Go.AM
namespace Go.AM
def flC (bad:Nat→Bool) (j:Bool) (l:List Int) (i:Nat):Bool:=(!j && bad (l.getD i 0).toNat) || (j && (decide (0<i) && decide (l.getD i 0 > l.getD (i-1) 0+1)))
def flN (bad:Nat→Bool) (j:Bool) (l:List Int):Nat→Int
 | 0=>0
 | n+1=>flN bad j l n+if flC bad j l n=true then 1 else 0
section
variable {bad:Nat→Bool} {j:Bool} {lg:Int}
theorem getD_appL {l m:List Int} {i:Nat} (h:i<l.length):(l++m).getD i 0=l.getD i 0:=by
 rw [List.getD_eq_getElem?_getD,List.getD_eq_getElem?_getD,List.getElem?_append_left h]
theorem getD_appE {l:List Int} {x:Int}:(l++[x]).getD l.length 0=x:=by
 rw [List.getD_eq_getElem?_getD,List.getElem?_append_right (Nat.le_refl _)];simp
theorem flN_app {l m:List Int}:∀ {n},n≤l.length→flN bad j (l++m) n=flN bad j l n
 | 0,_=>rfl
 | n+1,h=>by
  rw [flN,flN,flN_app (by omega)]
  have:flC bad j (l++m) n=flC bad j l n:=by
   unfold flC
   rw [getD_appL (by omega)]
   by_cases h0:0<n
   ·rw [getD_appL (show n-1<l.length by omega)]
   ·rw [decide_eq_false h0];simp
  rw [this]
theorem flN_b {l:List Int}:∀ {n},0≤flN bad j l n∧flN bad j l n≤n
 | 0=>by simp [flN]
 | n+1=>by
  have:=flN_b (l:=l) (n:=n)
  rw [flN];split<;>omega
theorem unL_fl {n x:Nat}:(unL bad j lg n x [] 0).2=flN bad j (unL bad j lg n x [] 0).1 (unL bad j lg n x [] 0).1.length:=by
 obtain ⟨u,_,_,h,_⟩:=unL_inv (bad:=bad) (j:=j) (lg:=lg) (I:=fun _ o f=>f=flN bad j o o.length) (fun u o f h _=>by
  unfold unS
  by_cases c:(j && bad u)=true
  ·rw [if_pos c];exact h
  ·rw [if_neg c]
   simp only [List.length_append,List.length_cons,List.length_nil,Nat.zero_add]
   rw [flN,flN_app (Nat.le_refl _),← h]
   have e:flC bad j (o++[(u:Int)]) o.length=(j && gapB o u || bad u):=by
    unfold flC gapB
    rw [getD_appE]
    cases j with
    | false=>simp
    | true =>
     have hb:bad u=false:=by simpa using c
     rw [hb]
     by_cases h0:0<o.length
     ·rw [getD_appL (show o.length-1<o.length by omega)]
      simp only [Bool.not_true,Bool.false_and,Bool.false_or,Bool.true_and,Bool.or_false]
      congr 1
      exact decide_eq_decide.2 (by omega)
     ·rw [decide_eq_false h0];simp
   rw [e]
   split<;>omega) n x [] 0 rfl
 exact h
theorem unL_pre:∀ (n u:Nat) (o:List Int) (f:Int),∃ m,(unL bad j lg n u o f).1=o++m
 | 0,u,o,f=>⟨[],by simp [unL]⟩
 | n+1,u,o,f=>by
  unfold unL
  split
  ·obtain ⟨m,hm⟩:=unL_pre n (u+1) (unS bad j u o f).1 (unS bad j u o f).2
   rw [hm]
   unfold unS
   split
   ·exact ⟨m,rfl⟩
   ·exact ⟨(u:Int) :: m,by simp⟩
  ·exact ⟨[],by simp⟩
end
theorem uniP_head {R:Rib} {w:Wnt} {x:Nat} {j:Bool} (hw:WntOk w) (hx:x<R.L.toNat) (h:(j && badF R x)=false):(uniP R w x j).1.getD 0 0=(x:Int)∧0<(uniP R w x j).1.length:=by
 have h0:=hw.lg
 unfold uniP
 rw [show R.L.toNat-x=(R.L.toNat-(x+1))+1 by omega,unL,if_pos (by simp;omega)]
 obtain ⟨m,hm⟩:=unL_pre (bad:=badF R) (j:=j) (lg:=w.lg) (R.L.toNat-(x+1)) (x+1) (unS (badF R) j x [] 0).1 (unS (badF R) j x [] 0).2
 rw [hm]
 unfold unS
 rw [if_neg (by rw [h];simp)]
 simp
theorem uniP_bad {R:Rib} {w:Wnt} {x:Nat} (hw:WntOk w) (hx:x<R.L.toNat) (h:badF R x=true):∀ y ∈ (uniP R w x true).1,(x:Int)<y:=by
 have h0:=hw.lg
 unfold uniP
 rw [show R.L.toNat-x=(R.L.toNat-(x+1))+1 by omega,unL,if_pos (by simp;omega)]
 have e:unS (badF R) true x [] 0=([],0):=by unfold unS;rw [h];rfl
 rw [e]
 obtain ⟨u,_,_,hk,_⟩:=unL_inv (bad:=badF R) (j:=true) (lg:=w.lg) (I:=UnK (x+1) 0 w.lg) (fun u o f h hl=>h.step hl) (R.L.toNat-(x+1)) (x+1) [] 0 UnK.start
 intro y hy
 have:=hk.b y hy;omega
end Go.AM
namespace Go.AM
open Go.Proofs.Tryz
attribute [-go_sem] put_ne put_same
attribute [local go_sem ↓] put_if
abbrev rctB (c:Ct):ABlk:=⟨.cells [.int .i64 c.w,.int .i64 c.f,.bool c.j] 129 false false,0⟩
theorem run_fault {base:Nat} {h:Heap} {v:AVal} {R:Rib} {u:Int} (hA:RibAt h v R) (hfl:R.F.length≤1000):callL prog raw base (.fn 127 [] []) [v,.int .i64 u] h=some (.bool (decide (u ∈ R.F)),h):=by
 obtain ⟨fv,wv,rfl,hF,hW⟩:=hA
 have o1:=hF.one
 have o2:=hW.one
 obtain ⟨G,eG⟩:∃ G,G=h++[rrbB R.L fv wv]:=⟨_,rfl⟩
 have xG:Ext h G:=by rw [eG];exact .app .refl
 have g0:G[h.length]?=some (rrbB R.L fv wv):=by rw [eG];exact get_eq rfl
 have iF:=hF.ext xG
 have hn1:=lenI iF
 unfold rrbB at eG g0
 refine callL_run func127 rfl rfl ?_
 have hsp:=@Nat.succ_ne_zero;repeat' (first|simp (disch:=first|exact dqc|fail) only [go_sem,↓reduceIte,hsp,← eG]|refine WP_drw ?_|refine cnd_intro (fun hsp=>?_) fun hsp=>?_)
 refine WP_count [(4,19)] 0 R.F.length (Nat.zero_le _) (fun _ i fr H=>fr 5=.int .i64 (i:Int)∧H=G∧u ∉ R.F.take i) ?_ ?_ ?_
 ·exact ⟨by (simp (disch:=first|exact dqc|fail) only [go_sem,↓reduceIte,Int.natCast_zero];first|done|rfl),rfl,by simp⟩
 ·rintro i fr H hi0 hi hA ⟨r5,rfl,hno⟩
  have q1:=hA 1 rfl
  have q2:=hA 2 rfl
  try simp (disch:=first|exact dqc|fail) only [go_sem,↓reduceIte] at q1 q2
  have hlt:((i:Int)<(R.F.length:Int))=True:=eq_true (by omega)
  have ai:=adrI (i:=(i:Int)) (by omega) iF (by omega)
  rw [Int.toNat_natCast] at ai
  have li:=loadI iF hi
  by_cases c:R.F.getD i 0=u
  ·have t1:(R.F.getD i 0=u)=True:=eq_true c
   have hsp:=@Nat.succ_ne_zero;repeat' (first|simp (disch:=first|exact dqc|fail) only [go_sem,↓reduceIte,hsp,r5,q1,q2,g0,hn1,hlt,ai,li,t1]|refine WP_drw ?_|refine cnd_intro (fun hsp=>?_) fun hsp=>?_)
   exact fB (decide_eq_true (by rw [← c];exact getD_mem' hi)).symm xG
  ·have t1:(R.F.getD i 0=u)=False:=eq_false c
   have hsp:=@Nat.succ_ne_zero;repeat' (first|simp (disch:=first|exact dqc|fail) only [go_sem,↓reduceIte,hsp,r5,q1,q2,g0,hn1,hlt,ai,li,t1]|refine WP_drw ?_|refine cnd_intro (fun hsp=>?_) fun hsp=>?_)
   refine ⟨agq,by omega,?_⟩
   rw [take_succD hi,List.mem_append]
   rintro (z|z)
   ·exact hno z
   ·simp at z;exact c z.symm
 ·rintro fr H hA ⟨r5,rfl,hno⟩
  have q1:=hA 1 rfl
  have q2:=hA 2 rfl
  try simp (disch:=first|exact dqc|fail) only [go_sem,↓reduceIte] at q1 q2
  have hlt:((R.F.length:Int)<(R.F.length:Int))=False:=eq_false (by omega)
  rw [List.take_length] at hno
  have hsp:=@Nat.succ_ne_zero;repeat' (first|simp (disch:=first|exact dqc|fail) only [go_sem,↓reduceIte,hsp,r5,q1,q2,g0,hn1,hlt]|refine WP_drw ?_|refine cnd_intro (fun hsp=>?_) fun hsp=>?_)
  exact fB (decide_eq_false hno).symm xG
theorem run_there {base:Nat} {h:Heap} {v:AVal} {R:Rib} {k u:Int} (hA:RibAt h v R) (hL:-100000≤R.L∧R.L≤100000) (hw:R.W.length≤1000):callL prog raw base (.fn 56 [] []) [v,.int .i64 k,.int .i64 u] h=some (.int .i64 (if (0≤k∧k≤(R.W.length:Int)-1)∧(0≤u∧u≤R.L-1) then 0 else 1),h):=by
 obtain ⟨fv,wv,rfl,hF,hW⟩:=hA
 have o1:=hF.one
 have o2:=hW.one
 obtain ⟨G,eG⟩:∃ G,G=h++[rrbB R.L fv wv]:=⟨_,rfl⟩
 have xG:Ext h G:=by rw [eG];exact .app .refl
 have g0:G[h.length]?=some (rrbB R.L fv wv):=by rw [eG];exact get_eq rfl
 have hn2:=rwn_len (hW.ext xG)
 have f1:=fun base=>run_off (base:=base) (h:=G) (n:=k) (lo:=0) (hi:=(R.W.length:Int)-1)
 have f2:=fun base=>run_off (base:=base) (h:=G) (n:=u) (lo:=0) (hi:=R.L-1)
 unfold rrbB at eG g0
 refine callL_run func56 rfl rfl ?_
 by_cases c1:0≤k∧k≤(R.W.length:Int)-1
 ·rw [decide_eq_true c1] at f1
  by_cases c2:0≤u∧u≤R.L-1
  ·rw [decide_eq_true c2] at f2
   have hsp:=@Nat.succ_ne_zero;repeat' (first|simp (disch:=first|exact dqc|fail) only [go_sem,↓reduceIte,hsp,← eG,g0,hn2,f1,f2,Bool.not_true]|refine WP_drw ?_|refine cnd_intro (fun hsp=>?_) fun hsp=>?_)
   exact fI (by rw [if_pos ⟨c1,c2⟩]) xG
  ·rw [decide_eq_false c2] at f2
   have hsp:=@Nat.succ_ne_zero;repeat' (first|simp (disch:=first|exact dqc|fail) only [go_sem,↓reduceIte,hsp,← eG,g0,hn2,f1,f2,Bool.not_true,Bool.not_false]|refine WP_drw ?_|refine cnd_intro (fun hsp=>?_) fun hsp=>?_)
   exact fI (by rw [if_neg (fun q=>c2 q.2)]) xG
 ·rw [decide_eq_false c1] at f1
  have hsp:=@Nat.succ_ne_zero;repeat' (first|simp (disch:=first|exact dqc|fail) only [go_sem,↓reduceIte,hsp,← eG,g0,hn2,f1,Bool.not_false]|refine WP_drw ?_|refine cnd_intro (fun hsp=>?_) fun hsp=>?_)
  exact fI (by rw [if_neg (fun q=>c1 q.1)]) xG
set_option maxRecDepth 100000 in
set_option maxHeartbeats 4000000 in
theorem run_takes {base:Nat} {h:Heap} {v:AVal} {R:Rib} {k x:Nat} {j:Bool} {w:Wnt} (hb:base≤h.length) (hA:RibAt h v R) (hR:RibOk R) (hw:R.W[k]?=some w) (hx:x<R.L.toNat) :
  Ret prog raw base (.fn 126 [] []) [v,.agg [.int .i64 (k:Int),.int .i64 (x:Int),.bool j]] h (fun u H=>Ext h H∧Own encI 3 h.length H u (uniP R w x j).1):=by
 have hAe:=fun H (e:Ext h H)=>hA.ext e
 obtain ⟨fv,wv,rfl,hF,hW⟩:=hA
 have o1:=hF.one
 have o2:=hW.one
 have hL:=hR.L
 have hnF:=hR.nF
 have hk:=(List.getElem?_eq_some_iff.1 hw).1
 have hlg:=(hR.W w (List.mem_of_getElem? hw)).lg
 obtain ⟨G,eG⟩:∃ G,G=h++[rrbB R.L fv wv]++[rctB ⟨k,x,j⟩]:=⟨_,rfl⟩
 have xG:Ext h G:=by rw [eG];exact .app (.app .refl)
 have g0:G[h.length]?=some (rrbB R.L fv wv):=by rw [eG];exact get_app (get_eq rfl)
 have g1:G[h.length+1]?=some (rctB ⟨k,x,j⟩):=by rw [eG];exact get_eq (by simp)
 have lG:G.length=h.length+2:=by rw [eG];simp
 unfold rrbB at eG g0
 unfold rctB at eG g1
 refine ret_raw func126 rfl (by kernel_rfl) ?_
 have hsp:=@Nat.succ_ne_zero;repeat' (first|simp (disch:=first|exact dqc|fail) only [go_sem,↓reduceIte,hsp,eG.symm,g1]|refine WP_drw ?_|refine cnd_intro (fun hsp=>?_) fun hsp=>?_)
 refine WP_cmeet [(5,39)] x R.L.toNat (Nat.le_of_lt hx) (fun _ i fr H=>fr 6=.int .i64 (i:Int)∧∃ ov o f,fr 5=ov∧Ext G H∧Own encI 3 G.length H ov o∧unL (badF R) j w.lg (R.L.toNat-i) i o f=uniP R w x j∧UnK x 0 w.lg i o f) (fun fr H=>∃ ov,fr 5=ov∧Ext G H∧Own encI 3 G.length H ov (uniP R w x j).1) ?_ ?_ ?_ ?_
 ·exact ⟨by (simp (disch:=first|exact dqc|fail) only [go_sem,↓reduceIte,Int.natCast_zero];first|done|rfl),_,_,_,by simp (disch:=first|exact dqc|fail) only [go_sem,↓reduceIte],.refl,Own.nil,rfl,UnK.start⟩
 ·rintro i fr H hi0 hi hA ⟨r6,ov,o,f,r5,xH,hO,hun,hK⟩
  have p2:=hA 2 rfl
  have p3:=hA 3 rfl
  have p4:=hA 4 rfl
  try simp (disch:=first|exact dqc|fail) only [go_sem,↓reduceIte] at p2 p3 p4
  have g0H:=xH.get g0
  have g1H:=xH.get g1
  have lH:=xH.len
  have hsm:=unK_small hK (by omega)
  have hno:=lenI (own_ints hO hsm)
  have oO:=hO.one
  have iW:=hW.ext (xG.trans xH)
  have a1:=rwn_ad iW hk
  have a2:=rwn_f0 iW hk
  have a3:=rwn_l0 iW hw
  have hlt:((i:Int)<R.L)=True:=eq_true (by omega)
  have hfa:=fun base=>run_fault (base:=base) (u:=(i:Int)) (hAe H (xG.trans xH)) (by omega)
  rw [show decide ((i:Int) ∈ R.F)=badF R i from rfl] at hfa
  by_cases c1:(o.length:Int)<w.lg
  ·have t1:((o.length:Int)<w.lg)=True:=eq_true c1
   have hK2:=hK.step (j:=j) (bad:=badF R) c1
   rw [unL_at hi,if_pos c1] at hun
   have hol:=hK.n
   obtain ⟨ov',H',ea,oO',l',e',on'⟩:=hO.append1 (P:=prog) (y:=(i:Int)) (a:=.int .i64 (i:Int)) (base:=base) (t:=32) rfl rfl Fc.el32 encI_sc (show base≤G.length by omega) lH (by omega)
   have xH2:=e' G (Nat.le_refl _) xH
   cases j with
   | false =>
    have eS:(unS (badF R) false i o f).1=o++[(i:Int)]:=by unfold unS;rfl
    rw [eS] at hun hK2
    have hsp:=@Nat.succ_ne_zero;repeat' (first|simp (disch:=first|exact dqc|fail) only [go_sem,↓reduceIte,hsp,r6,r5,p2,p3,p4,g0H,g1H,hlt,hno,a1,a2,a3,t1,ea]|refine WP_drw ?_|refine cnd_intro (fun hsp=>?_) fun hsp=>?_)
    exact ⟨agq,by omega,ov',_,_,rfl,xH2,oO',hun,hK2⟩
   | true =>
    rcases Bool.eq_false_or_eq_true (badF R i) with qb|qb
    ·rw [qb] at hfa
     have eS:unS (badF R) true i o f=(o,f):=by unfold unS;rw [qb];rfl
     rw [eS] at hun hK2
     have hsp:=@Nat.succ_ne_zero;repeat' (first|simp (disch:=first|exact dqc|fail) only [go_sem,↓reduceIte,hsp,r6,r5,p2,p3,p4,g0H,g1H,hlt,hno,a1,a2,a3,t1,hfa]|refine WP_drw ?_|refine cnd_intro (fun hsp=>?_) fun hsp=>?_)
     exact ⟨agq,by omega,ov,o,f,rfl,xH,hO,hun,hK2⟩
    ·rw [qb] at hfa
     have eS:(unS (badF R) true i o f).1=o++[(i:Int)]:=by unfold unS;rw [qb];rfl
     rw [eS] at hun hK2
     have hsp:=@Nat.succ_ne_zero;repeat' (first|simp (disch:=first|exact dqc|fail) only [go_sem,↓reduceIte,hsp,r6,r5,p2,p3,p4,g0H,g1H,hlt,hno,a1,a2,a3,t1,hfa,ea]|refine WP_drw ?_|refine cnd_intro (fun hsp=>?_) fun hsp=>?_)
     exact ⟨agq,by omega,ov',_,_,rfl,xH2,oO',hun,hK2⟩
  ·have t1:((o.length:Int)<w.lg)=False:=eq_false c1
   rw [unL_at hi,if_neg c1] at hun
   have hsp:=@Nat.succ_ne_zero;repeat' (first|simp (disch:=first|exact dqc|fail) only [go_sem,↓reduceIte,hsp,r6,r5,p2,p3,p4,g0H,g1H,hlt,hno,a1,a2,a3,t1]|refine WP_drw ?_|refine cnd_intro (fun hsp=>?_) fun hsp=>?_)
   rw [← hun]
   exact ⟨agq,ov,rfl,xH,hO⟩
 ·rintro fr H hA ⟨r6,ov,o,f,r5,xH,hO,hun,hK⟩
  have p2:=hA 2 rfl
  have p3:=hA 3 rfl
  have p4:=hA 4 rfl
  try simp (disch:=first|exact dqc|fail) only [go_sem,↓reduceIte] at p2 p3 p4
  have g0H:=xH.get g0
  have hlt:(((R.L.toNat:Nat):Int)<R.L)=False:=eq_false (by omega)
  rw [Nat.sub_self,unL] at hun
  have oO:=hO.one
  have hsp:=@Nat.succ_ne_zero;repeat' (first|simp (disch:=first|exact dqc|fail) only [go_sem,↓reduceIte,hsp,r6,r5,p2,p3,p4,g0H,hlt]|refine WP_drw ?_|refine cnd_intro (fun hsp=>?_) fun hsp=>?_)
  rw [← hun]
  exact ⟨agq,ov,rfl,xH,hO⟩
 ·rintro fr H hA ⟨ov,r5,xH,hO⟩
  have p2:=hA 2 rfl
  have p3:=hA 3 rfl
  have p4:=hA 4 rfl
  try simp (disch:=first|exact dqc|fail) only [go_sem,↓reduceIte] at p2 p3 p4
  have oO:=hO.one
  have hsp:=@Nat.succ_ne_zero;repeat' (first|simp (disch:=first|exact dqc|fail) only [go_sem,↓reduceIte,hsp,r5,p2,p3,p4]|refine WP_drw ?_|refine cnd_intro (fun hsp=>?_) fun hsp=>?_)
  exact ⟨xG.trans xH,hO.low (by omega)⟩
end Go.AM
