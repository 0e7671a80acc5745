/-
  Contracts: the first element of which something holds; whether it holds of some, of all.
-/
import Derived.Test.YtikgghhceolaeaaGreatU12
import Derived.Test.YtikgghhceolaeaaGreatU9
set_option linter.unusedSimpArgs false
set_option linter.unusedVariables false
namespace Go.AM
open Go.Proofs.Tryz
theorem idxF_W {base:Nat} {h:Heap} {v g:AVal} {l:List (Wnt)} (p:Wnt→Bool) (hR:Rows encW h v l) (hg:∀ base x,x ∈ l→callL prog raw base g [.agg (encW.cells x)] h=some (.bool (p x),h)) :
  callL prog raw base (.fn 154 [] []) [v,g] h=some (.int .i64 (idx p l),h):=by
 have hb:l.length<2 ^ 60:=hR.1
 refine callL_run func154 rfl rfl ?_
 have hsp:=@Nat.succ_ne_zero;repeat' (first|simp (disch:=first|exact dqb|fail) only [go_sem,hsp,hR.len Fc.el33]|refine WP_drw ?_|refine cnd_intro (fun hsp=>?_) fun hsp=>?_)
 refine WP_loop (fun σ=>∃ n:Nat,σ.fr 8=.int .i64 (n:Int)∧σ.fr 0=v∧σ.fr 1=g∧σ.fr 7=.int .i64 (l.length:Int)∧σ.h=h∧n≤l.length∧(∀ x ∈ l.take n,p x=false)) (fun σ=>match σ.fr 8 with|.int _ x=>(((l.length:Nat):Int)-x).toNat|_=>0) ?_ ?_
 ·refine ⟨0,?_,?_,?_,?_,?_,by omega,?_⟩
  iterate 5 focus (first|rfl|(simp (disch:=first|exact dqb|fail) only [go_sem,Int.natCast_zero];first|done|rfl))
  intro x hx;simp at hx
 ·rintro ⟨fr,hp⟩ ⟨n,r8,r0,r1,r7,rh,hi,hP⟩
  dsimp only at r8 r0 r1 r7 rh hi hP
  subst rh
  by_cases hn:n<l.length
  ·have hlt:((n:Int)<(l.length:Int))=True:=eq_true (by omega)
   have hx:l[n]?=some l[n]:=List.getElem?_eq_getElem hn
   have had:=hR.addr (i:=(n:Int)) Fc.el33 Fc.ar33 (by omega) (by omega)
   rw [Int.toNat_natCast] at had
   have hld:=hR.load Fc.ty50 hx
   have hc:=fun base=>hg base l[n] (List.getElem_mem hn)
   cases hp:p l[n] with
   | true =>
    rw [hp] at hc
    have hsp:=@Nat.succ_ne_zero;repeat' (first|simp (disch:=first|exact dqb|fail) only [go_sem,hsp,r8,r0,r1,r7,hlt,had,hld,hc]|refine WP_drw ?_|refine cnd_intro (fun hsp=>?_) fun hsp=>?_)
    rw [idx_hit p hn hP hp]
    all_goals (first|refine fI ?_|refine fB ?_|refine fII ?_ ?_|refine fBI ?_ ?_|refine fIII ?_ ?_ ?_|refine fIIB ?_ ?_ ?_|skip);all_goals (try dsimp only);all_goals (try with_reducible rfl);all_goals (try omega)
   | false =>
    rw [hp] at hc
    have hsp:=@Nat.succ_ne_zero;repeat' (first|simp (disch:=first|exact dqb|fail) only [go_sem,hsp,r8,r0,r1,r7,hlt,had,hld,hc]|refine WP_drw ?_|refine cnd_intro (fun hsp=>?_) fun hsp=>?_)
    exact ⟨⟨n+1,by simp,by omega,take_next p hn hP hp⟩,by omega⟩
  ·have hlt:((n:Int)<(l.length:Int))=False:=eq_false (by omega)
   obtain rfl:n=l.length:=by omega
   have hsp:=@Nat.succ_ne_zero;repeat' (first|simp (disch:=first|exact dqb|fail) only [go_sem,hsp,r8,r0,r1,r7,hlt]|refine WP_drw ?_|refine cnd_intro (fun hsp=>?_) fun hsp=>?_)
   rw [idx_miss p hP]
   all_goals (first|refine fI ?_|refine fB ?_|refine fII ?_ ?_|refine fBI ?_ ?_|refine fIII ?_ ?_ ?_|refine fIIB ?_ ?_ ?_|skip);all_goals (try dsimp only);all_goals (try with_reducible rfl);all_goals (try omega)
theorem anyF_W {base:Nat} {h:Heap} {v g:AVal} {l:List (Wnt)} (p:Wnt→Bool) (hR:Rows encW h v l) (hg:∀ base x,x ∈ l→callL prog raw base g [.agg (encW.cells x)] h=some (.bool (p x),h)) :
  callL prog raw base (.fn 136 [] []) [v,g] h=some (.bool (l.any p),h):=by
 have hi:=fun base=>idxF_W (base:=base) p hR hg
 have h0:=idx_any p l
 refine callL_run func136 rfl rfl ?_
 have hsp:=@Nat.succ_ne_zero;repeat' (first|simp (disch:=first|exact dqb|fail) only [go_sem,hsp,hi]|refine WP_drw ?_|refine cnd_intro (fun hsp=>?_) fun hsp=>?_)
 refine fB ?_
 by_cases h1:l.any p=true
 ·rw [h1];simpa using h0.2 h1
 ·have h2:¬ 0≤idx p l:=fun h=>h1 (h0.1 h)
  simp only [Bool.not_eq_true] at h1
  rw [h1];simpa using h2
theorem not_W {base id:Nat} {h:Heap} {g:AVal} {x:Wnt} {b:Bool} (hid:h[id]?=some ⟨.cells [g] 153 false false,0⟩) (hg:∀ base T,callL prog raw base g [.agg (encW.cells x)] (h++T)=some (.bool b,h++T)) :
  callL prog raw base (.fn 137 [] [.ptr (some ⟨id,0,0⟩)]) [.agg (encW.cells x)] h=some (.bool (!b),h):=by
 have hgi:=lt_of_get hid
 simp only [encW] at hg ⊢
 refine callL_run func137 rfl rfl ?_
 have hsp:=@Nat.succ_ne_zero;repeat' (first|simp (disch:=first|exact dqb|fail) only [go_sem,hsp,hid,hg]|refine WP_drw ?_|refine cnd_intro (fun hsp=>?_) fun hsp=>?_)
 exact fB rfl
theorem every_W {base:Nat} {h:Heap} {v g:AVal} {l:List (Wnt)} (p:Wnt→Bool) (hR:Rows encW h v l) (hg:∀ base T x,x ∈ l→callL prog raw base g [.agg (encW.cells x)] (h++T)=some (.bool (p x),h++T)) (h1:One g) :
  callL prog raw base (.fn 81 [] []) [v,g] h=some (.bool (l.all p),h):=by
 have hc:=fun base=>anyF_W (base:=base) (fun x=>!p x) hR.app (fun base x hx=>not_W (x:=x) (get_eq rfl) (fun base T=>by have:=hg base ([⟨.cells [g] 153 false false,0⟩]++T) x hx;rwa [← List.append_assoc] at this))
 refine callL_run func81 rfl rfl ?_
 have hsp:=@Nat.succ_ne_zero;repeat' (first|simp (disch:=first|exact dqb|fail) only [go_sem,hsp,hc]|refine WP_drw ?_|refine cnd_intro (fun hsp=>?_) fun hsp=>?_)
 refine fB ?_
 rw [List.any_eq_not_all_not]
 simp
theorem idxF_I {base:Nat} {h:Heap} {v g:AVal} {l:List (Int)} (p:Int→Bool) (hR:Ints h v l) (hg:∀ base x,x ∈ l→callL prog raw base g [.int .i64 x] h=some (.bool (p x),h)) :
  callL prog raw base (.fn 42 [] []) [v,g] h=some (.int .i64 (idx p l),h):=by
 have hb:l.length<2 ^ 60:=hR.1.1
 refine callL_run func42 rfl rfl ?_
 have hsp:=@Nat.succ_ne_zero;repeat' (first|simp (disch:=first|exact dqb|fail) only [go_sem,hsp,lenI hR]|refine WP_drw ?_|refine cnd_intro (fun hsp=>?_) fun hsp=>?_)
 refine WP_loop (fun σ=>∃ n:Nat,σ.fr 8=.int .i64 (n:Int)∧σ.fr 0=v∧σ.fr 1=g∧σ.fr 7=.int .i64 (l.length:Int)∧σ.h=h∧n≤l.length∧(∀ x ∈ l.take n,p x=false)) (fun σ=>match σ.fr 8 with|.int _ x=>(((l.length:Nat):Int)-x).toNat|_=>0) ?_ ?_
 ·refine ⟨0,?_,?_,?_,?_,?_,by omega,?_⟩
  iterate 5 focus (first|rfl|(simp (disch:=first|exact dqb|fail) only [go_sem,Int.natCast_zero];first|done|rfl))
  intro x hx;simp at hx
 ·rintro ⟨fr,hp⟩ ⟨n,r8,r0,r1,r7,rh,hi,hP⟩
  dsimp only at r8 r0 r1 r7 rh hi hP
  subst rh
  by_cases hn:n<l.length
  ·have hlt:((n:Int)<(l.length:Int))=True:=eq_true (by omega)
   have hx:l[n]?=some l[n]:=List.getElem?_eq_getElem hn
   have had:=adrI (i:=(n:Int)) (by omega) hR (by omega)
   rw [Int.toNat_natCast] at had
   have hld:=loadI hR hn
   rw [getD_at hn] at hld
   have hc:=fun base=>hg base l[n] (List.getElem_mem hn)
   cases hp:p l[n] with
   | true =>
    rw [hp] at hc
    have hsp:=@Nat.succ_ne_zero;repeat' (first|simp (disch:=first|exact dqb|fail) only [go_sem,hsp,r8,r0,r1,r7,hlt,had,hld,hc]|refine WP_drw ?_|refine cnd_intro (fun hsp=>?_) fun hsp=>?_)
    rw [idx_hit p hn hP hp]
    all_goals (first|refine fI ?_|refine fB ?_|refine fII ?_ ?_|refine fBI ?_ ?_|refine fIII ?_ ?_ ?_|refine fIIB ?_ ?_ ?_|skip);all_goals (try dsimp only);all_goals (try with_reducible rfl);all_goals (try omega)
   | false =>
    rw [hp] at hc
    have hsp:=@Nat.succ_ne_zero;repeat' (first|simp (disch:=first|exact dqb|fail) only [go_sem,hsp,r8,r0,r1,r7,hlt,had,hld,hc]|refine WP_drw ?_|refine cnd_intro (fun hsp=>?_) fun hsp=>?_)
    exact ⟨⟨n+1,by simp,by omega,take_next p hn hP hp⟩,by omega⟩
  ·have hlt:((n:Int)<(l.length:Int))=False:=eq_false (by omega)
   obtain rfl:n=l.length:=by omega
   have hsp:=@Nat.succ_ne_zero;repeat' (first|simp (disch:=first|exact dqb|fail) only [go_sem,hsp,r8,r0,r1,r7,hlt]|refine WP_drw ?_|refine cnd_intro (fun hsp=>?_) fun hsp=>?_)
   rw [idx_miss p hP]
   all_goals (first|refine fI ?_|refine fB ?_|refine fII ?_ ?_|refine fBI ?_ ?_|refine fIII ?_ ?_ ?_|refine fIIB ?_ ?_ ?_|skip);all_goals (try dsimp only);all_goals (try with_reducible rfl);all_goals (try omega)
theorem anyF_I {base:Nat} {h:Heap} {v g:AVal} {l:List (Int)} (p:Int→Bool) (hR:Ints h v l) (hg:∀ base x,x ∈ l→callL prog raw base g [.int .i64 x] h=some (.bool (p x),h)) :
  callL prog raw base (.fn 14 [] []) [v,g] h=some (.bool (l.any p),h):=by
 have hi:=fun base=>idxF_I (base:=base) p hR hg
 have h0:=idx_any p l
 refine callL_run func14 rfl rfl ?_
 have hsp:=@Nat.succ_ne_zero;repeat' (first|simp (disch:=first|exact dqb|fail) only [go_sem,hsp,hi]|refine WP_drw ?_|refine cnd_intro (fun hsp=>?_) fun hsp=>?_)
 refine fB ?_
 by_cases h1:l.any p=true
 ·rw [h1];simpa using h0.2 h1
 ·have h2:¬ 0≤idx p l:=fun h=>h1 (h0.1 h)
  simp only [Bool.not_eq_true] at h1
  rw [h1];simpa using h2
theorem not_I {base id:Nat} {h:Heap} {g:AVal} {x:Int} {b:Bool} (hid:h[id]?=some ⟨.cells [g] 61 false false,0⟩) (hg:∀ base T,callL prog raw base g [.int .i64 x] (h++T)=some (.bool b,h++T)) :
  callL prog raw base (.fn 138 [] [.ptr (some ⟨id,0,0⟩)]) [.int .i64 x] h=some (.bool (!b),h):=by
 have hgi:=lt_of_get hid
 have hg0:=fun base=>hg base []
 simp only [List.append_nil] at hg0
 refine callL_run func138 rfl rfl ?_
 have hsp:=@Nat.succ_ne_zero;repeat' (first|simp (disch:=first|exact dqb|fail) only [go_sem,hsp,hid,hg0]|refine WP_drw ?_|refine cnd_intro (fun hsp=>?_) fun hsp=>?_)
 exact fB rfl
theorem every_I {base:Nat} {h:Heap} {v g:AVal} {l:List (Int)} (p:Int→Bool) (hR:Ints h v l) (hg:∀ base T x,x ∈ l→callL prog raw base g [.int .i64 x] (h++T)=some (.bool (p x),h++T)) (h1:One g) :
  callL prog raw base (.fn 83 [] []) [v,g] h=some (.bool (l.all p),h):=by
 have hc:=fun base=>anyF_I (base:=base) (fun x=>!p x) hR.app (fun base x hx=>not_I (x:=x) (get_eq rfl) (fun base T=>by have:=hg base ([⟨.cells [g] 61 false false,0⟩]++T) x hx;rwa [← List.append_assoc] at this))
 refine callL_run func83 rfl rfl ?_
 have hsp:=@Nat.succ_ne_zero;repeat' (first|simp (disch:=first|exact dqb|fail) only [go_sem,hsp,hc]|refine WP_drw ?_|refine cnd_intro (fun hsp=>?_) fun hsp=>?_)
 refine fB ?_
 rw [List.any_eq_not_all_not]
 simp
end Go.AM
namespace Go.AM
open Go.Proofs.Tryz
def sortB (l:List Int):Bool:=decide (∀ i,i<l.length→0<i→l.getD (i-1) 0≤l.getD i 0)
theorem run_sorted {base:Nat} {h:Heap} {v:AVal} {l:List Int} (hI:Ints h v l):callL prog raw base (.fn 84 [] []) [v] h=some (.bool (sortB l),h):=by
 have hl:=hI.1.1
 refine callL_run func84 rfl rfl ?_
 have hsp:=@Nat.succ_ne_zero;repeat' (first|simp (disch:=first|exact dqb|fail) only [go_sem,hsp]|refine WP_drw ?_|refine cnd_intro (fun hsp=>?_) fun hsp=>?_)
 refine WP_loop (fun σ=>∃ c:Int,σ.fr 3=.int .i64 c∧σ.fr 0=v∧σ.h=h∧-1≤c∧c<l.length∧∀ i:Nat,c<i→i<l.length→l.getD (i-1) 0≤l.getD i 0) (fun σ=>match σ.fr 3 with|.int _ x=>(x+1).toNat|_=>0) ?_ ?_
 ·refine ⟨(l.length:Int)-1,?_,?_,rfl,by omega,by omega,fun i h1 h2=>by omega⟩
  ·simp (disch:=first|exact dqb|fail) only [go_sem]
  ·simp (disch:=first|exact dqb|fail) only [go_sem]
 ·rintro ⟨fr,hp⟩ ⟨c,r3,r0,rh,hc1,hc2,hP⟩
  dsimp only at r3 r0 rh
  subst rh
  by_cases hc:c > 0
  ·have hlt:(c > 0)=True:=eq_true hc
   obtain ⟨n,rfl⟩:=Int.eq_ofNat_of_zero_le (show 0≤c by omega)
   have e1:((n:Int)-1).toNat=n-1:=by omega
   by_cases hs:l.getD n 0<l.getD (n-1) 0
   ·have t2:(l.getD n 0<l.getD (n-1) 0)=True:=eq_true hs
    have hsp:=@Nat.succ_ne_zero;repeat' (first|simp (disch:=first|exact dqb|fail) only [go_sem,hsp,r3,r0,hlt,e1,t2]|refine WP_drw ?_|refine cnd_intro (fun hsp=>?_) fun hsp=>?_)
    refine fB (decide_eq_false fun hh=>?_).symm
    have:=hh n (by omega) (by omega)
    omega
   ·have t2:(l.getD n 0<l.getD (n-1) 0)=False:=eq_false hs
    have hsp:=@Nat.succ_ne_zero;repeat' (first|simp (disch:=first|exact dqb|fail) only [go_sem,hsp,r3,r0,hlt,e1,t2]|refine WP_drw ?_|refine cnd_intro (fun hsp=>?_) fun hsp=>?_)
    refine ⟨⟨(n:Int)-1,rfl,by omega,by omega,fun i h1 h2=>?_⟩,by omega⟩
    by_cases e:i=n
    ·subst e;omega
    ·exact hP i (by omega) h2
  ·have hlt:(c > 0)=False:=eq_false hc
   have hsp:=@Nat.succ_ne_zero;repeat' (first|simp (disch:=first|exact dqb|fail) only [go_sem,hsp,r3,r0,hlt]|refine WP_drw ?_|refine cnd_intro (fun hsp=>?_) fun hsp=>?_)
   exact fB (decide_eq_true fun i h1 h2=>hP i (by omega) h1).symm
attribute [go_sem] run_sorted
end Go.AM
namespace Go.AM
open Go.Proofs.Tryz
theorem splice_ints:∀ (z:List Int) (m:List Int) (o:Nat),∃ m',splice (ints m) o (ints z)=ints m'∧m'.length=m.length
 | [],m,o=>⟨m,rfl,rfl⟩
 | x :: z,m,o=>by
  obtain ⟨m',h1,h2⟩:=splice_ints z (m.set o x) (o+1)
  refine ⟨m',?_,by rw [h2,List.length_set]⟩
  show splice ((ints m).set o (.int .i64 x)) (o+1) (ints z)=ints m'
  rw [ints_set];exact h1
theorem clr_part {base id o n k:Nat} {H:Heap} {m:List Int} (hg:H[id]?=some (rowB m 0)) (hn:0<n) (ho:o+n≤m.length):∃ m':List Int,m'.length=m.length∧clearA prog base H 32 (.slice (some ⟨id,0,o⟩) n k)=some (.tuple [],H.set id (rowB m' 0)):=by
 have hrep:∀ j,repCells [AVal.int .i64 0] j=ints (lst (fun _=>0) j):=fun j=>by
  induction j with
  | zero=>rfl
  | succ j ih =>
   rw [repCells,ih]
   simp [ints,lst,List.range_succ_eq_map,List.map_map]
 obtain ⟨m',h1,h2⟩:=splice_ints (lst (fun _=>0) n) m o
 refine ⟨m',h2,?_⟩
 cases n with
 | zero=>omega
 | succ n =>
  simp only [clearA,Fc.el32,hrep,store_eq,hg,rowB,stQ]
  rw [if_pos ⟨trivial,by rw [ints_length,ints_length,lst_len];exact ho,ints_scalar _,.inr (ints_bare _)⟩,h1]
theorem sl_from {id ver o n k:Nat} {lo:Int} (h0:0≤lo) (h1:lo≤n) (h2:n≤k):sliceA prog 32 (.slice (some ⟨id,ver,o⟩) n k) (some (.int .i64 lo)) none none=some (.slice (some ⟨id,ver,o+lo.toNat⟩) (n-lo.toNat) (k-lo.toNat)):=by
 have e1:lo≤(n:Int):=h1
 simp [sliceA,Fc.ar32,Fc.el32,optB,boundA,ARef.add,h0,e1]
theorem sl_to {id ver o n k:Nat} {hi:Int} (h0:0≤hi) (h1:hi≤k):sliceA prog 32 (.slice (some ⟨id,ver,o⟩) n k) none (some (.int .i64 hi)) none=some (.slice (some ⟨id,ver,o⟩) hi.toNat k):=by
 have e1:hi≤(k:Int):=h1
 simp [sliceA,Fc.ar32,Fc.el32,optB,boundA,ARef.add,h0,e1]
def nodup (l:List Int):Prop:=∀ i,i<l.length→0<i→l.getD i 0 ≠ l.getD (i-1) 0
theorem run_compact {base id:Nat} {h:Heap} {l:List Int} (hg:h[id]?=some (rowB l 0)) (hs:Small l) :
  Ret prog raw base (.fn 85 [] []) [.slice (some ⟨id,0,0⟩) l.length l.length] h (fun v H=>∃ (k:Nat) (m:List Int),v=.slice (some ⟨id,0,0⟩) k l.length∧H=h.set id (rowB m 0)∧m.length=l.length∧k≤l.length∧(k=l.length ↔ nodup l)):=by
 have hid:=lt_of_get hg
 have hl:l.length<1073741824:=hs.1
 have hself:h=h.set id (rowB l 0):=(set_id hg).symm
 refine ret_raw func85 rfl (by kernel_rfl) ?_
 by_cases h2:l.length<2
 ·have t1:((l.length:Int)<2)=True:=eq_true (by omega)
  have hsp:=@Nat.succ_ne_zero;repeat' (first|simp (disch:=first|exact dqb|fail) only [go_sem,hsp,t1,Fc.ln32]|refine WP_drw ?_|refine cnd_intro (fun hsp=>?_) fun hsp=>?_)
  exact ⟨l.length,l,rfl,hself,rfl,Nat.le_refl _,⟨fun _ i h1 h2=>by omega,fun _=>rfl⟩⟩
 ·have t1:((l.length:Int)<2)=False:=eq_false (by omega)
  have hsp:=@Nat.succ_ne_zero;repeat' (first|simp (disch:=first|exact dqb|fail) only [go_sem,hsp,t1,Fc.ln32]|refine WP_drw ?_|refine cnd_intro (fun hsp=>?_) fun hsp=>?_)
  refine WP_loop (fun σ=>∃ i:Nat,σ.fr 3=.int .i64 (i:Int)∧σ.fr 0=.slice (some ⟨id,0,0⟩) l.length l.length∧σ.h=h∧i≤l.length∧(1≤i∧∀ j,j<i→0<j→l.getD j 0 ≠ l.getD (j-1) 0)) (fun σ=>match σ.fr 3 with|.int _ x=>(((l.length:Nat):Int)-x).toNat|_=>0) ?_ ?_
  ·refine ⟨1,?_,?_,?_,by omega,?_⟩
   iterate 3 focus (first|rfl|(simp (disch:=first|exact dqb|fail) only [go_sem,Int.natCast_zero];first|done|rfl))
   exact ⟨Nat.le_refl _,fun j h1 h2=>by omega⟩
  ·rintro ⟨fr,hp⟩ ⟨i,r3,r0,rh,hi,hP⟩
   dsimp only at r3 r0 rh hi hP
   subst rh
   obtain ⟨hi1,hP⟩:=hP
   by_cases hn:i<l.length
   ·have hlt:((i:Int)<(l.length:Int))=True:=eq_true (by omega)
    have e1:((i:Int)-1).toNat=i-1:=by omega
    by_cases he:l.getD i 0=l.getD (i-1) 0
    ·have t2:(l.getD i 0=l.getD (i-1) 0)=True:=eq_true he
     have hsp:=@Nat.succ_ne_zero;repeat' (first|simp (disch:=first|exact dqb|fail) only [go_sem,hsp,r3,r0,hlt,t2,e1,hg,sl_from,Fc.ln32,Fc.as32]|refine WP_drw ?_|refine cnd_intro (fun hsp=>?_) fun hsp=>?_)
     refine WP_loop (fun σ=>∃ (k2 k:Nat) (m:List Int),σ.fr 5=.int .i64 (k2:Int)∧σ.fr 3=.int .i64 (k:Int)∧σ.fr 0=.slice (some ⟨id,0,0⟩) l.length l.length∧σ.fr 4=.slice (some ⟨id,0,i⟩) (l.length-i) (l.length-i)∧σ.h=hp.set id (rowB m 0)∧m.length=l.length∧(1≤k2∧k2≤l.length-i)∧(i≤k∧k+1≤i+k2)) (fun σ=>match σ.fr 5 with|.int _ x=>(((l.length-i:Nat):Int)-x).toNat|_=>0) ?_ ?_
     ·refine ⟨1,i,l,?_,?_,?_,?_,hself,rfl,by omega,by omega⟩
      ·simp (disch:=first|exact dqb|fail) only [go_sem]
      ·simp (disch:=first|exact dqb|fail) only [go_sem,r3,r0]
      ·simp (disch:=first|exact dqb|fail) only [go_sem,r3,r0]
      ·simp (disch:=first|exact dqb|fail) only [go_sem,r3,r0]
     ·rintro ⟨fr2,hp2⟩ ⟨k2,k,m,q5,q3,q0,q4,rh2,hm,hk2,hk⟩
      dsimp only at q5 q3 q0 q4 rh2
      subst rh2
      have hgm:(hp.set id (rowB m 0))[id]?=some (rowB m 0):=by rw [List.getElem?_set_self hid]
      by_cases hn2:k2<l.length-i
      ·have hlt2:((k2:Int)<((l.length-i:Nat):Int))=True:=eq_true (by omega)
       have e2:((k2:Int)-1).toNat=k2-1:=by omega
       by_cases he2:m.getD (i+k2) 0=m.getD (i+(k2-1)) 0
       ·have t3:(m.getD (i+k2) 0=m.getD (i+(k2-1)) 0)=True:=eq_true he2
        have hsp:=@Nat.succ_ne_zero;repeat' (first|simp (disch:=first|exact dqb|fail) only [go_sem,hsp,q5,q3,q0,q4,hlt2,t3,e2,hgm,hid,Fc.ln32,Fc.as32]|refine WP_drw ?_|refine cnd_intro (fun hsp=>?_) fun hsp=>?_)
        exact ⟨⟨k2+1,k,m,by simp,rfl,rfl,hm,by omega,by omega⟩,by omega⟩
       ·have t3:(m.getD (i+k2) 0=m.getD (i+(k2-1)) 0)=False:=eq_false he2
        have hsp:=@Nat.succ_ne_zero;repeat' (first|simp (disch:=first|exact dqb|fail) only [go_sem,hsp,q5,q3,q0,q4,hlt2,t3,e2,hgm,hid,Fc.ln32,Fc.as32]|refine WP_drw ?_|refine cnd_intro (fun hsp=>?_) fun hsp=>?_)
        exact ⟨⟨k2+1,k+1,m.set k (m.getD (i+k2) 0),by simp,by simp,by first|rfl|exact List.set_set ..,by rw [List.length_set];exact hm,by omega,by omega⟩,by omega⟩
      ·have hlt2:((k2:Int)<((l.length-i:Nat):Int))=False:=eq_false (by omega)
       obtain ⟨m',hm',hcl⟩:=clr_part (base:=base) (o:=k) (n:=l.length-k) (k:=l.length-k) hgm (by omega) (by omega)
       have hsp:=@Nat.succ_ne_zero;repeat' (first|simp (disch:=first|exact dqb|fail) only [go_sem,hsp,q5,q3,q0,q4,hlt2,sl_from,sl_to,hcl,Fc.ln32]|refine WP_drw ?_|refine cnd_intro (fun hsp=>?_) fun hsp=>?_)
       exact ⟨k,m',rfl,by first|rfl|exact List.set_set ..,by rw [hm',hm],by omega,⟨fun e=>by omega,fun hd=>absurd he (hd i hn (by omega))⟩⟩
    ·have t2:(l.getD i 0=l.getD (i-1) 0)=False:=eq_false he
     have hsp:=@Nat.succ_ne_zero;repeat' (first|simp (disch:=first|exact dqb|fail) only [go_sem,hsp,r3,r0,hlt,t2,e1,hg,Fc.ln32,Fc.as32]|refine WP_drw ?_|refine cnd_intro (fun hsp=>?_) fun hsp=>?_)
     refine ⟨⟨i+1,by simp,by omega,by omega,fun j h1 h2=>?_⟩,by omega⟩
     by_cases e:j=i
     ·subst e;exact he
     ·exact hP j (by omega) h2
   ·have hlt:((i:Int)<(l.length:Int))=False:=eq_false (by omega)
    have hsp:=@Nat.succ_ne_zero;repeat' (first|simp (disch:=first|exact dqb|fail) only [go_sem,hsp,r3,r0,hlt,Fc.ln32]|refine WP_drw ?_|refine cnd_intro (fun hsp=>?_) fun hsp=>?_)
    exact ⟨l.length,l,rfl,hself,rfl,Nat.le_refl _,⟨fun _ j h1 h2=>hP j (by omega) h2,fun _=>rfl⟩⟩
theorem run_compact0 {base:Nat} {h:Heap} {v:AVal} {l:List Int} (hI:Ints h v l) (h2:l.length<2):Ret prog raw base (.fn 85 [] []) [v] h (fun w H=>w=v∧H=h):=by
 have t1:((l.length:Int)<2)=True:=eq_true (by omega)
 refine ret_raw func85 rfl (by kernel_rfl) ?_
 have hsp:=@Nat.succ_ne_zero;repeat' (first|simp (disch:=first|exact dqb|fail) only [go_sem,hsp,t1,lenI hI]|refine WP_drw ?_|refine cnd_intro (fun hsp=>?_) fun hsp=>?_)
def riseB (l:List Int):Bool:=decide (∀ i,i<l.length→0<i→l.getD (i-1) 0<l.getD i 0)
end Go.AM
namespace Go.AM
open Go.Proofs.Tryz
attribute [-go_sem] put_ne put_same
attribute [local go_sem ↓] put_if
theorem run_in {base:Nat} {h:Heap} {n lo hi:Int}:callL prog raw base (.fn 80 [] []) [.int .i64 n,.int .i64 lo,.int .i64 hi] h=some (.bool (decide (lo≤n∧n≤hi)),h):=by
 refine callL_run func80 rfl rfl ?_
 by_cases h1:lo≤n
 ·have t1:(n ≥ lo)=True:=eq_true h1
  have hsp:=@Nat.succ_ne_zero;repeat' (first|simp (disch:=first|exact dqb|fail) only [go_sem,↓reduceIte,hsp,t1]|refine WP_drw ?_|refine cnd_intro (fun hsp=>?_) fun hsp=>?_)
  refine fB ?_
  simp [h1]
 ·have t1:(n ≥ lo)=False:=eq_false h1
  have hsp:=@Nat.succ_ne_zero;repeat' (first|simp (disch:=first|exact dqb|fail) only [go_sem,↓reduceIte,hsp,t1]|refine WP_drw ?_|refine cnd_intro (fun hsp=>?_) fun hsp=>?_)
  refine fB ?_
  simp [h1]
attribute [go_sem] run_in
def mxF (n:Int) (l:List Int):Int:=l.foldl max n
theorem run_most {base:Nat} {h:Heap} {v:AVal} {l:List Int} {n:Int} (hI:Ints h v l):callL prog raw base (.fn 111 [] []) [.int .i64 n,v] h=some (.int .i64 (mxF n l),h):=by
 have hl:=hI.1.1
 have hlen:=lenI hI
 refine callL_run func111 rfl rfl ?_
 have hsp:=@Nat.succ_ne_zero;repeat' (first|simp (disch:=first|exact dqb|fail) only [go_sem,↓reduceIte,hsp,hlen]|refine WP_drw ?_|refine cnd_intro (fun hsp=>?_) fun hsp=>?_)
 refine WP_count [(0,0),(6,6),(9,16)] 0 l.length (Nat.zero_le _) (fun _ i fr h'=>fr 9=.int .i64 (i:Int)∧fr 0=.int .i64 (mxF n (l.take i))∧h'=h) ?_ ?_ ?_
 ·exact ⟨by (simp (disch:=first|exact dqb|fail) only [go_sem,↓reduceIte,Int.natCast_zero];first|done|rfl),by simp (disch:=first|exact dqb|fail) only [go_sem,↓reduceIte];rfl,rfl⟩
 ·rintro i fr H hi0 hi hA ⟨r9,r0,rfl⟩
  have p4:=hA 4 rfl
  have p7:=hA 7 rfl
  have p8:=hA 8 rfl
  try simp (disch:=first|exact dqb|fail) only [go_sem,↓reduceIte] at p4 p7 p8
  have hlt:((i:Int)<(l.length:Int))=True:=eq_true (by omega)
  have hl0:=loadI hI hi
  have ha0:=adrI (i:=(i:Int)) (by omega) hI (by omega)
  rw [Int.toNat_natCast] at ha0
  have hsp:=@Nat.succ_ne_zero;repeat' (first|simp (disch:=first|exact dqb|fail) only [go_sem,↓reduceIte,hsp,r9,r0,p4,p7,p8,hlt,ha0,hl0]|refine WP_drw ?_|refine cnd_intro (fun hsp=>?_) fun hsp=>?_)
  refine ⟨agq,by omega,?_⟩
  unfold mxF
  rw [List.take_add_one,getD_some (d:=0) hi,List.foldl_append]
  rfl
 ·rintro fr H hA ⟨r9,r0,rfl⟩
  have p4:=hA 4 rfl
  have p7:=hA 7 rfl
  have p8:=hA 8 rfl
  try simp (disch:=first|exact dqb|fail) only [go_sem,↓reduceIte] at p4 p7 p8
  have hlt:((l.length:Int)<(l.length:Int))=False:=eq_false (by omega)
  rw [List.take_length] at r0
  have hsp:=@Nat.succ_ne_zero;repeat' (first|simp (disch:=first|exact dqb|fail) only [go_sem,↓reduceIte,hsp,r9,r0,p4,p7,p8,hlt]|refine WP_drw ?_|refine cnd_intro (fun hsp=>?_) fun hsp=>?_)
  exact fI rfl
theorem run_most1 {base m:Nat} {A:Heap} {n x:Int} (hm:m=A.length) (hx:-9223372036854775808≤x∧x<9223372036854775808):callL prog raw base (.fn 111 [] []) [.int .i64 n,.slice (some ⟨m,0,0⟩) 1 1] (A++[rowB [x] 0])=some (.int .i64 (max n x),A++[rowB [x] 0]):=by
 have:=run_most (base:=base) (n:=n) (h:=A++[rowB [x] 0]) (v:=.slice (some ⟨m,0,0⟩) 1 1) (l:=[x]) (slice_row hm rfl ⟨by simp,fun y hy=>by simp at hy;rw [hy];exact hx⟩)
 rwa [show mxF n [x]=max n x from rfl] at this
section
variable {base:Nat} {h:Heap} {L x:Int} {fv wv:AVal} {W:List Wnt}
theorem run_unit (hL:-100000≤L∧L≤100000) (o1:One fv) (o2:One wv):callL prog raw base (.fn 79 [] []) [.agg [.int .i64 L,fv,wv],.int .i64 x] h=some (.bool (decide (0≤x∧x≤L-1)),h):=by
 refine callL_run func79 rfl rfl ?_
 have hsp:=@Nat.succ_ne_zero;repeat' (first|simp (disch:=first|exact dqb|fail) only [go_sem,↓reduceIte,hsp]|refine WP_drw ?_|refine cnd_intro (fun hsp=>?_) fun hsp=>?_)
 exact fB rfl
theorem run_unit' (hL:-100000≤L∧L≤100000) (o1:One fv) (o2:One wv):callL prog raw base (.fn 79 [.agg [.int .i64 L,fv,wv]] []) [.int .i64 x] h=some (.bool (decide (0≤x∧x≤L-1)),h):=by
 refine callL_run func79 rfl rfl ?_
 have hsp:=@Nat.succ_ne_zero;repeat' (first|simp (disch:=first|exact dqb|fail) only [go_sem,↓reduceIte,hsp]|refine WP_drw ?_|refine cnd_intro (fun hsp=>?_) fun hsp=>?_)
 exact fB rfl
theorem run_want (hR:Rows encW h wv W) (o1:One fv):callL prog raw base (.fn 113 [] []) [.agg [.int .i64 L,fv,wv],.int .i64 x] h=some (.bool (decide (0≤x∧x≤(W.length:Int)-1)),h):=by
 have o2:=hR.one
 have hl:=hR.1
 have hn:=(hR.app (T:=[ribB L fv wv])).len (P:=prog) Fc.el33
 refine callL_run func113 rfl rfl ?_
 have hsp:=@Nat.succ_ne_zero;repeat' (first|simp (disch:=first|exact dqb|fail) only [go_sem,↓reduceIte,hsp,hn]|refine WP_drw ?_|refine cnd_intro (fun hsp=>?_) fun hsp=>?_)
 exact fB rfl
theorem run_right {w:Wnt}:callL prog raw base (.fn 82 [] []) [.agg (encW.cells w)] h=some (.bool (wntB w),h):=by
 simp only [encW]
 unfold wntB
 refine callL_run func82 rfl rfl ?_
 by_cases c1:1≤w.lg∧w.lg≤60
 ·have t1:decide (1≤w.lg∧w.lg≤60)=true:=decide_eq_true c1
  by_cases c2:0≤w.pr∧w.pr≤100
  ·have t2:decide (0≤w.pr∧w.pr≤100)=true:=decide_eq_true c2
   by_cases c3:0≤w.off∧w.off≤20
   ·have t3:decide (0≤w.off∧w.off≤20)=true:=decide_eq_true c3
    by_cases c4:0≤w.fl∧w.fl≤4
    ·have t4:decide (0≤w.fl∧w.fl≤4)=true:=decide_eq_true c4
     have hsp:=@Nat.succ_ne_zero;repeat' (first|simp (disch:=first|exact dqb|fail) only [go_sem,↓reduceIte,hsp,t1,t2,t3,t4]|refine WP_drw ?_|refine cnd_intro (fun hsp=>?_) fun hsp=>?_)
     exact fB (by simp)
    ·have t4:decide (0≤w.fl∧w.fl≤4)=false:=decide_eq_false c4
     have hsp:=@Nat.succ_ne_zero;repeat' (first|simp (disch:=first|exact dqb|fail) only [go_sem,↓reduceIte,hsp,t1,t2,t3,t4]|refine WP_drw ?_|refine cnd_intro (fun hsp=>?_) fun hsp=>?_)
     exact fB (by simp)
   ·have t3:decide (0≤w.off∧w.off≤20)=false:=decide_eq_false c3
    have hsp:=@Nat.succ_ne_zero;repeat' (first|simp (disch:=first|exact dqb|fail) only [go_sem,↓reduceIte,hsp,t1,t2,t3]|refine WP_drw ?_|refine cnd_intro (fun hsp=>?_) fun hsp=>?_)
    exact fB (by simp)
  ·have t2:decide (0≤w.pr∧w.pr≤100)=false:=decide_eq_false c2
   have hsp:=@Nat.succ_ne_zero;repeat' (first|simp (disch:=first|exact dqb|fail) only [go_sem,↓reduceIte,hsp,t1,t2]|refine WP_drw ?_|refine cnd_intro (fun hsp=>?_) fun hsp=>?_)
   exact fB (by simp)
 ·have t1:decide (1≤w.lg∧w.lg≤60)=false:=decide_eq_false c1
  have hsp:=@Nat.succ_ne_zero;repeat' (first|simp (disch:=first|exact dqb|fail) only [go_sem,↓reduceIte,hsp,t1]|refine WP_drw ?_|refine cnd_intro (fun hsp=>?_) fun hsp=>?_)
  exact fB (by simp)
end
theorem Ints.lowR {h G:Heap} {v:AVal} {l:List Int} (hI:Ints h v l) (e:Ext h G):refsLow G.length v:=by
 rcases hI.2 with ⟨rfl,_⟩|⟨rfl,_⟩|⟨r,k,c,e1,row,ro,rfl,h2,_⟩
 ·exact refsLow_nil
 ·rfl
 ·exact refsLow_slice (lt_of_get (e.get h2))
theorem rise_iff {l:List Int}:riseB l=true ↔ l.Pairwise (·<·):=by
 unfold riseB
 rw [decide_eq_true_iff,List.pairwise_iff_getElem]
 constructor
 ·intro h
  have main:∀ (d i:Nat) (hi:i<l.length) (hj:i+d+1<l.length),l[i]<l[i+d+1]:=by
   intro d
   induction d with
   | zero =>
    intro i hi hj
    have:=h (i+0+1) hj (by omega)
    rw [getD_at hj,getD_at (by omega)] at this
    exact this
   | succ d ih =>
    intro i hi hj
    have h1:=ih i hi (by omega)
    have h2:=h (i+(d+1)+1) hj (by omega)
    rw [getD_at hj,getD_at (by omega)] at h2
    exact Int.lt_trans h1 h2
  intro i j hi hj hij
  have:=main (j-i-1) i hi (by omega)
  simpa [show i+(j-i-1)+1=j by omega] using this
 ·intro h i hi h0
  rw [getD_at hi,getD_at (by omega)]
  exact h _ _ (by omega) hi (by omega)
set_option maxHeartbeats 2000000 in
theorem stN2 {base:Nat} {l:List Oper} {s:St} {Q:AExit→St→Prop}:WP prog raw base (.region 8 l.toArray true) s Q=WPS prog raw base (.region 8 l.toArray true) s Q:=WP_stop
attribute [local go_sem ↓ 3000] stN2
theorem run_Check {base:Nat} {h:Heap} {v:AVal} {R:Rib} (hR:RibAt h v R) (hsm:R.F.length≤1048576):callL prog raw base (.fn 27 [] []) [v] h=some (.int .i64 (chkR R),h):=by
 obtain ⟨fv,wv,rfl,hF,hW⟩:=hR
 have o1:=hF.one
 have o2:=hW.one
 obtain ⟨G0,eG0⟩:∃ G0,G0=h++[ribB R.L fv wv]:=⟨_,rfl⟩
 have x0:Ext h G0:=by rw [eG0];exact .app .refl
 have g0:G0[h.length]?=some (ribB R.L fv wv):=by rw [eG0];exact get_eq rfl
 have l0:G0.length=h.length+1:=by rw [eG0];simp
 have iF:=hF.ext x0
 have iW:=hW.ext x0
 have hn1:=lenI iF
 have hn2:=iW.len (P:=prog) Fc.el33
 have ev1:=fun base=>every_W (base:=base) (g:=.fn 82 [] []) wntB iW (fun base T x _=>run_right) ⟨rfl,rfl,rfl⟩
 unfold ribB at eG0 g0
 refine callL_run func27 rfl rfl ?_
 by_cases c0:1≤R.L∧R.L≤60
 ·have t0:decide (1≤R.L∧R.L≤60)=true:=decide_eq_true c0
  by_cases c1:(R.F.length:Int) > 12
  ·have t1:((R.F.length:Int) > 12)=True:=eq_true c1
   have hsp:=@Nat.succ_ne_zero;repeat' (first|simp (disch:=first|exact dqb|fail) only [go_sem,↓reduceIte,hsp,← eG0,g0,t0,hn1,t1]|refine WP_drw ?_|refine cnd_intro (fun hsp=>?_) fun hsp=>?_)
   refine fI ?_ x0
   unfold chkR
   rw [if_pos (.inr (.inl c1))]
  ·have t1:((R.F.length:Int) > 12)=False:=eq_false c1
   by_cases c2:(R.W.length:Int) > 6
   ·have t2:((R.W.length:Int) > 6)=True:=eq_true c2
    have hsp:=@Nat.succ_ne_zero;repeat' (first|simp (disch:=first|exact dqb|fail) only [go_sem,↓reduceIte,hsp,← eG0,g0,t0,hn1,t1,hn2,t2]|refine WP_drw ?_|refine cnd_intro (fun hsp=>?_) fun hsp=>?_)
    refine fI ?_ x0
    unfold chkR
    rw [if_pos (.inr (.inr c2))]
   ·have t2:((R.W.length:Int) > 6)=False:=eq_false c2
    have u0:¬ (¬ (1≤R.L∧R.L≤60) ∨ (R.F.length:Int) > 12 ∨ (R.W.length:Int) > 6):=by omega
    have ev2:=fun base=>every_I (base:=base) (g:=.fn 79 [.agg [.int .i64 R.L,fv,wv]] []) (fun x=>decide (0≤x∧x≤R.L-1)) iF (fun base T x _=>run_unit' (by omega) o1 o2) ⟨rfl,rfl,rfl⟩
    cases c3:R.W.all wntB with
    | false =>
     rw [c3] at ev1
     have hsp:=@Nat.succ_ne_zero;repeat' (first|simp (disch:=first|exact dqb|fail) only [go_sem,↓reduceIte,hsp,← eG0,g0,t0,hn1,t1,hn2,t2,ev1]|refine WP_drw ?_|refine cnd_intro (fun hsp=>?_) fun hsp=>?_)
     refine fI ?_ x0
     unfold chkR
     rw [if_neg u0,if_pos (by rw [c3];simp)]
    | true =>
     rw [c3] at ev1
     cases c4:(R.F.all fun x=>decide (0≤x∧x≤R.L-1)) with
     | false =>
      rw [c4] at ev2
      have hsp:=@Nat.succ_ne_zero;repeat' (first|simp (disch:=first|exact dqb|fail) only [go_sem,↓reduceIte,hsp,← eG0,g0,t0,hn1,t1,hn2,t2,ev1,ev2]|refine WP_drw ?_|refine cnd_intro (fun hsp=>?_) fun hsp=>?_)
      refine fI ?_ x0
      unfold chkR
      rw [if_neg u0,if_neg (by rw [c3];simp),if_pos (by rw [c4];simp)]
     | true =>
      rw [c4] at ev2
      have u3:¬ ¬ R.W.all wntB=true:=by rw [c3];simp
      have u4:¬ ¬ (R.F.all fun x=>decide (0≤x∧x≤R.L-1))=true:=by rw [c4];simp
      have hs:Small R.F:=⟨by omega,hF.1.2⟩
      have hso0:=fun base=>run_sorted (base:=base) iF
      have hc:=fun base=>run_clone (base:=base) iF hs
      have hFl:=hF.1.1
      have hsp:=@Nat.succ_ne_zero;repeat' (first|simp (disch:=first|exact dqb|fail) only [go_sem,↓reduceIte,hsp,← eG0,g0,t0,hn1,t1,hn2,t2,ev1,ev2]|refine WP_drw ?_|refine cnd_intro (fun hsp=>?_) fun hsp=>?_)
      refine WPS_go ?_
      cases hso:sortB R.F with
      | false =>
       have hr:¬ R.F.Pairwise (·<·):=fun q=>by
        have q:=of_decide_eq_true (rise_iff.2 q)
        unfold sortB at hso
        exact of_decide_eq_false hso fun i h1 h2=>by have:=q i h1 h2;omega
       rw [hso] at hso0
       refine WP_drw ?_
       have hsp:=@Nat.succ_ne_zero;repeat' (first|simp (disch:=first|exact dqb|fail) only [go_sem,↓reduceIte,hsp,g0,hso0]|refine WP_drw ?_|refine cnd_intro (fun hsp=>?_) fun hsp=>?_)
       refine fI ?_ x0
       unfold chkR
       rw [if_neg u0,if_neg u3,if_neg u4,if_pos hr]
      | true =>
       rw [hso] at hso0
       have hso2:=of_decide_eq_true hso
       have key:nodup R.F ↔ R.F.Pairwise (·<·):=by
        rw [← rise_iff]
        unfold riseB nodup
        rw [decide_eq_true_iff]
        exact ⟨fun hd i h1 h2=>by have:=hd i h1 h2;have:=hso2 i h1 h2;omega,fun hh i h1 h2=>by have:=hh i h1 h2;omega⟩
       by_cases hz:nilB fv=true ∨ R.F=[]
       ·have hl0:R.F=[]:=hz.elim (fun hn=>(hF.nilB_nil hn).2) id
        have hic:Ints G0 (cloneV fv G0.length R.F) R.F:=by
         have:=cloneV_ints iF hs
         rw [hl0] at this ⊢
         simpa [cloneH,newH_nil] using this
        obtain ⟨cv,CH,ce,hv1,hv2⟩:=run_compact0 (base:=h.length) hic (by rw [hl0];simp)
        rw [hv1,hv2] at ce
        have hce:G0++cloneH fv R.F=G0:=by rw [hl0];simp [cloneH,newH_nil]
        rw [hce] at hc
        have hlt:((R.F.length:Int)<(R.F.length:Int))=False:=eq_false (by omega)
        refine WP_drw ?_
        have hsp:=@Nat.succ_ne_zero;repeat' (first|simp (disch:=first|exact dqb|fail) only [go_sem,↓reduceIte,hsp,g0,hso0,hc,ce,hn1,lenI hic,hlt]|refine WP_drw ?_|refine cnd_intro (fun hsp=>?_) fun hsp=>?_)
        refine fI ?_ x0
        unfold chkR
        rw [if_neg u0,if_neg u3,if_neg u4,if_neg (by rw [hl0];simp)]
       ·have hne:R.F ≠ []:=fun e=>hz (.inr e)
        have hnb:nilB fv=false:=by simpa using fun e=>hz (.inl e)
        have e1:∀ n,cloneV fv n R.F=.slice (some ⟨n,0,0⟩) R.F.length R.F.length:=fun n=>by rw [cloneV,if_neg (by simp [hnb]),newV_ne hne]
        have e2:cloneH fv R.F=[rowB R.F 0]:=by rw [cloneH,if_neg (by simp [hnb]),newH_ne hne]
        rw [e1,e2] at hc
        obtain ⟨cv,CH,ce,k,m,rfl,rfl,hm,hk,hiff⟩:=run_compact (base:=h.length) (h:=G0++[rowB R.F 0]) (id:=G0.length) (get_eq rfl) hs
        rw [set_eq rfl] at ce
        have hIm:=lenI (iF.ext (.app (t:=[rowB m 0]) .refl))
        obtain ⟨G2,eG2⟩:∃ G2,G2=G0++[rowB m 0]:=⟨_,rfl⟩
        rw [← eG2] at ce hIm
        have x2:Ext G0 G2:=by rw [eG2];exact .app .refl
        have g2:=x2.get g0
        have g1:(G0++[rowB R.F 0])[h.length]?=_:=get_app g0
        have hkl:lenOpA prog G2 32 (.slice (some ⟨G0.length,0,0⟩) k R.F.length)=some (.int .i64 (k:Int)):=len_sl Fc.el32
        have hlow:refsLow G0.length fv:=hF.lowR x0
        refine WP_wild [⟨11,32,45,⟨h.length,0,1⟩,fv,100⟩] (by kernel_rfl) (by kernel_rfl) (by kernel_rfl) ⟨hlow,trivial⟩ fun K hK=>?_
        iterate 16
         rw [TRS_cons]
         refine ⟨by first|(simp (disch:=first|exact dqb|fail) only [go_sem,↓reduceIte,g0,g1,g2,hso0,hc,ce,hIm,hkl,ldsQ_cons,ldsQ_nil,grdQ_cons,grdQ_nil,if_true,Nat.reduceLeDiff];done)|exact trivial,?_⟩
         simp (disch:=first|exact dqb|fail) only [go_sem,↓reduceIte,g0,g1,g2,hso0,hc,ce,hIm,hkl]
        rw [TRS_nil]
        refine ⟨by first|(simp (disch:=first|exact dqb|fail) only [go_sem,↓reduceIte,g0,g1,g2,hso0,hc,ce,hIm,hkl,ldsQ_cons,ldsQ_nil,grdQ_cons,grdQ_nil,if_true,Nat.reduceLeDiff];done)|exact trivial,?_⟩
        subst hK
        by_cases hd:nodup R.F
        ·have:=hiff.2 hd
         have hlt:((k:Int)<(R.F.length:Int))=False:=eq_false (by omega)
         have hsp:=@Nat.succ_ne_zero;repeat' (first|simp (disch:=first|exact dqb|fail) only [go_sem,↓reduceIte,hsp,hlt]|refine WP_drw ?_|refine cnd_intro (fun hsp=>?_) fun hsp=>?_)
         refine fI ?_ (x0.trans x2)
         unfold chkR
         rw [if_neg u0,if_neg u3,if_neg u4,if_neg (fun q=>q (key.1 hd))]
        ·have hkn:¬ k=R.F.length:=fun e=>hd (hiff.1 e)
         have hlt:((k:Int)<(R.F.length:Int))=True:=eq_true (by omega)
         have hsp:=@Nat.succ_ne_zero;repeat' (first|simp (disch:=first|exact dqb|fail) only [go_sem,↓reduceIte,hsp,hlt]|refine WP_drw ?_|refine cnd_intro (fun hsp=>?_) fun hsp=>?_)
         refine fI ?_ (x0.trans x2)
         unfold chkR
         rw [if_neg u0,if_neg u3,if_neg u4,if_pos (fun q=>hd (key.2 q))]
 ·have t0:decide (1≤R.L∧R.L≤60)=false:=decide_eq_false c0
  have hsp:=@Nat.succ_ne_zero;repeat' (first|simp (disch:=first|exact dqb|fail) only [go_sem,↓reduceIte,hsp,← eG0,g0,t0]|refine WP_drw ?_|refine cnd_intro (fun hsp=>?_) fun hsp=>?_)
  refine fI ?_ x0
  unfold chkR
  rw [if_pos (.inl c0)]
end Go.AM
namespace Go.AM
open Go.Proofs.Tryz
attribute [-go_sem] put_ne put_same
attribute [local go_sem ↓] put_if
theorem blB_nil:blB []=List.replicate 60 (.bool false):=by
 refine List.ext_getElem? fun i=>?_
 by_cases hi:i<60
 ·rw [blB_at hi,List.getElem?_replicate,if_pos hi];simp
 ·rw [List.getElem?_eq_none (by rw [blB_len];omega),List.getElem?_eq_none (by simp;omega)]
theorem bdD {L:Int} {fv wv:AVal}:buildA prog 169 [(0,.agg [.int .i64 L,fv,wv])]=some (.agg (.int .i64 L :: fv :: wv :: blB [])):=by
 have e:=Fc.bd169_0 (y0_0:=.int .i64 L) (y0_1:=fv) (y0_2:=wv)
 rw [e,blB_nil];rfl
theorem run_worked {base:Nat} {h:Heap} {v:AVal} {R:Rib} (hb:base≤h.length) (hA:RibAt h v R) (hR:RibOk R) :
  Ret prog raw base (.fn 107 [] []) [v] h (fun w H=>Ext h H∧∃ id,w=.ptr (some ⟨id,0,0⟩)∧h.length≤id∧DskAt H id R):=by
 obtain ⟨fv,wv,rfl,hF,hW⟩:=hA
 have o1:=hF.one
 have o2:=hW.one
 obtain ⟨G0,eG0⟩:∃ G0,G0=h++[ribB R.L fv wv]:=⟨_,rfl⟩
 have x0:Ext h G0:=by rw [eG0];exact .app .refl
 have g0:G0[h.length]?=some (ribB R.L fv wv):=by rw [eG0];exact get_eq rfl
 have l0:G0.length=h.length+1:=by rw [eG0];simp
 have eG1:∀ F,G0++[(⟨.cells (.int .i64 R.L :: fv :: wv :: blB F) 169 false false,0⟩:ABlk)]=G0++[dskB R.L fv wv F]:=fun _=>rfl
 have bd:=bdD (L:=R.L) (fv:=fv) (wv:=wv)
 have hn1:∀ F,lenOpA prog (G0++[dskB R.L fv wv F]) 32 fv=some (.int .i64 (R.F.length:Int)):=fun F=>lenI (hF.ext (x0.trans (.app .refl)))
 have hL:=hR.L
 have hnF:=hR.nF
 unfold ribB at eG0 g0
 refine ret_raw func107 rfl (by kernel_rfl) ?_
 have hsp:=@Nat.succ_ne_zero;repeat' (first|simp (disch:=first|exact dqb|fail) only [go_sem,↓reduceIte,hsp,← eG0,g0,bd,eG1,hn1]|refine WP_drw ?_|refine cnd_intro (fun hsp=>?_) fun hsp=>?_)
 refine WP_count [(5,5),(12,21)] 0 R.F.length (Nat.zero_le _) (fun _ i fr H=>fr 12=.int .i64 (i:Int)∧H=G0++[dskB R.L fv wv (R.F.take i)]) ?_ ?_ ?_
 ·exact ⟨by (simp (disch:=first|exact dqb|fail) only [go_sem,↓reduceIte,Int.natCast_zero];first|done|rfl),by simp⟩
 ·rintro i fr H hi0 hi hA ⟨r12,rfl⟩
  have p2:=hA 2 rfl
  have p3:=hA 3 rfl
  have p10:=hA 10 rfl
  have p11:=hA 11 rfl
  try simp (disch:=first|exact dqb|fail) only [go_sem,↓reduceIte] at p2 p3 p10 p11
  have hlt:((i:Int)<(R.F.length:Int))=True:=eq_true (by omega)
  have iF:=hF.ext (x0.trans (.app (t:=[dskB R.L fv wv (R.F.take i)]) .refl))
  have hl0:=loadI iF hi
  have ha0:=adrI (i:=(i:Int)) (by omega) iF (by omega)
  rw [Int.toNat_natCast] at ha0
  have hu:=hR.F _ (getD_mem' (d:=0) hi)
  obtain ⟨u,eu⟩:=Int.eq_ofNat_of_zero_le hu.1
  rw [eu] at hl0 hu
  have hu60:u<60:=by omega
  have e3:3+(u:Int).toNat * 1=3+u:=by omega
  have g1:(G0++[dskB R.L fv wv (R.F.take i)])[G0.length]?=some (dskB R.L fv wv (R.F.take i)):=get_eq rfl
  have st:∀ {F:ABlk→Heap},stQ base G0.length (some (dskB R.L fv wv (R.F.take i))) 0 (3+u) [.bool true] F=some (F (dskB R.L fv wv (R.F.take i++[(u:Int)]))):=fun {F}=>dsk_st (by omega) hu60
  have hsp:=@Nat.succ_ne_zero;repeat' (first|simp (disch:=first|exact dqb|fail) only [go_sem,↓reduceIte,hsp,r12,p2,p3,p10,p11,hlt,ha0,hl0,e3,g1,st]|refine WP_drw ?_|refine cnd_intro (fun hsp=>?_) fun hsp=>?_)
  refine ⟨agq,by omega,?_⟩
  rw [List.take_add_one,getD_some (d:=0) hi,eu];rfl
 ·rintro fr H hA ⟨r12,rfl⟩
  have p2:=hA 2 rfl
  have p3:=hA 3 rfl
  have p10:=hA 10 rfl
  have p11:=hA 11 rfl
  try simp (disch:=first|exact dqb|fail) only [go_sem,↓reduceIte] at p2 p3 p10 p11
  have hlt:((R.F.length:Int)<(R.F.length:Int))=False:=eq_false (by omega)
  rw [List.take_length]
  have hsp:=@Nat.succ_ne_zero;repeat' (first|simp (disch:=first|exact dqb|fail) only [go_sem,↓reduceIte,hsp,r12,p2,p3,p10,p11,hlt]|refine WP_drw ?_|refine cnd_intro (fun hsp=>?_) fun hsp=>?_)
  have x1:Ext h (G0++[dskB R.L fv wv R.F]):=x0.trans (.app .refl)
  exact ⟨x1,_,rfl,by omega,fv,wv,get_eq rfl,hF.ext x1,hW.ext x1⟩
theorem run_opened {base:Nat} {h:Heap} {v:AVal} {R:Rib} (hb:base≤h.length) (hA:RibAt h v R) (hsm:R.F.length≤1048576) :
  Ret prog raw base (.fn 37 [] []) [v] h (fun w H=>Ext h H∧(chkR R ≠ 0→w=.tuple [.ptr none,.int .i64 (chkR R)])∧(chkR R=0→∃ id,w=.tuple [.ptr (some ⟨id,0,0⟩),.int .i64 0]∧h.length≤id∧DskAt H id R)):=by
 have hAe:=fun H (e:Ext h H)=>hA.ext e
 obtain ⟨fv,wv,rfl,hF,hW⟩:=hA
 have o1:=hF.one
 have o2:=hW.one
 obtain ⟨G0,eG0⟩:∃ G0,G0=h++[ribB R.L fv wv]:=⟨_,rfl⟩
 have x0:Ext h G0:=by rw [eG0];exact .app .refl
 have g0:G0[h.length]?=some (ribB R.L fv wv):=by rw [eG0];exact get_eq rfl
 have l0:G0.length=h.length+1:=by rw [eG0];simp
 have hA0:=hAe G0 x0
 have hck0:=fun base=>run_Check (base:=base) hA0 hsm
 unfold ribB at eG0 g0
 by_cases c0:chkR R=0
 ·rw [c0] at hck0
  obtain ⟨w1,H1,e1,x1,id,rfl,hid,hD⟩:=run_worked (base:=base) (by omega) hA0 (chkR_iff.1 c0)
  refine ret_raw func37 rfl (by kernel_rfl) ?_
  have hsp:=@Nat.succ_ne_zero;repeat' (first|simp (disch:=first|exact dqb|fail) only [go_sem,↓reduceIte,hsp,← eG0,g0,hck0,e1]|refine WP_drw ?_|refine cnd_intro (fun hsp=>?_) fun hsp=>?_)
  exact ⟨x0.trans x1,fun q=>absurd c0 q,fun _=>⟨id,rfl,by omega,hD⟩⟩
 ·have t0:(chkR R=0)=False:=eq_false c0
  refine ret_raw func37 rfl (by kernel_rfl) ?_
  have hsp:=@Nat.succ_ne_zero;repeat' (first|simp (disch:=first|exact dqb|fail) only [go_sem,↓reduceIte,hsp,← eG0,g0,hck0,t0]|refine WP_drw ?_|refine cnd_intro (fun hsp=>?_) fun hsp=>?_)
  refine ⟨x0,?_,?_⟩<;>first|trivial|exact fun _=>rfl|exact fun q=>q.elim|exact fun q=>absurd q c0
end Go.AM
namespace Go.AM
section
variable {α β:Type} {E:Enc α} {E2:Enc β} {P:Program} {base b b2 k:Nat} {h H:Heap} {v w x:AVal} {l m:List α} {l2:List β} {t e e2:TypeId} {zs:List AVal}
def snV (h:Heap) (v:AVal) (k:Nat):AVal:=match v with
 | .slice (some r) n _=>.slice (some ⟨r.id,r.ver+1,0⟩) (n+k) (n+k)
 | _=>.slice (some ⟨h.length,0,0⟩) k k
def snH (E:Enc α) (e:TypeId) (h:Heap) (v:AVal) (l m:List α):Heap:=match v with
 | .slice (some r) _ _=>h.set r.id (rowE E e (l++m) (r.ver+1))
 | _=>h++[rowE E e m 0]
def Asun (v w:AVal):Prop:=∀ r n c s k d,v=.slice (some r) n c→w=.slice (some s) k d→r.id ≠ s.id
theorem snV_one:One (snV h v k):=by unfold snV;split<;>exact ⟨rfl,rfl,rfl⟩
theorem snH_len:h.length≤(snH E e h v l m).length:=by unfold snH;split<;>simp
theorem app_sn (hO:Own E e b h v l) (ht:elS P t=some (e,E.z,zs)) (hs:∀ y,(E.cells y).all AVal.scalar=true) (hb:base≤b) (hm:0<m.length) (hsz:l.length+m.length<2147483648)
  (hx1:lenA E.z x=some m.length) (hx2:firstN h E.z m.length x=some (flat E m)):appendA P base h t v x=some (snV h v m.length,snH E e h v l m):=by
 rcases hO with ⟨rfl,rfl⟩|⟨id,ver,rfl,h1,h2,h3⟩
 ·simp only [appendA,ht,hx1,hx2,flat_scalar hs,if_true]
  rw [if_neg (by omega),if_pos (show m.length<2 ^ 31 by simp at hsz;omega)]
  rfl
 ·simp only [appendA,ht,hx1,hx2,flat_scalar hs,if_true]
  rw [if_neg (by omega),h1]
  simp only [rowE,flat_len]
  rw [if_pos ⟨trivial,trivial,trivial,trivial,show l.length+m.length<2 ^ 31 from hsz,h3,.inl (by omega)⟩]
  rw [List.take_of_length_le (by rw [flat_len];exact Nat.le_refl _),← flat_app]
  rfl
theorem app_sn1 {y:α} {a:AVal} (hO:Own E e b h v l) (hz:E.z=1) (hy:E.cells y=[a]) (ht:elS P t=some (e,1,zs)) (hs:∀ y,(E.cells y).all AVal.scalar=true) (hb:base≤b) (hsz:l.length+1<2147483648) :
  appendA P base h t v (.vals [a])=some (snV h v 1,snH E e h v l [y]):=by
 refine app_sn (m:=[y]) hO (by rw [hz];exact ht) hs hb (by simp) (by simpa using hsz) ?_ ?_
 ·rw [hz];rfl
 ·rw [hz];simp [firstN,flat,hy]
theorem Own.sn (hO:Own E e b h v l) (hbh:b≤h.length) (hm:0<m.length):Own E e b (snH E e h v l m) (snV h v m.length) (l++m):=by
 rcases hO with ⟨rfl,rfl⟩|⟨id,ver,rfl,h1,h2,h3⟩
 ·exact .inr ⟨h.length,0,by simp [snV],get_eq rfl,hbh,by simpa using hm⟩
 ·exact .inr ⟨id,ver+1,by simp [snV],by unfold snH;simp only;rw [List.getElem?_set_self (lt_of_get h1)],h2,by simp;omega⟩
theorem Own.sn_ext (hO:Own E e b h v l) (hG:H.length≤b) (g:Ext H h):Ext H (snH E e h v l m):=by
 rcases hO with ⟨rfl,rfl⟩|⟨id,ver,rfl,h1,h2,h3⟩
 ·exact .app g
 ·exact g.set (show H.length≤id by omega)
end
theorem WP_cmeet {P:Program} {raw:FuncId→Bool} {base:Nat} {c:Code} {id:Nat} {FR:AFrame} {H:Heap} {Q:AExit→St→Prop} (mod:List (Nat × Nat)) (a N:Nat) (haN:a≤N) (J:Heap→Nat→AFrame→Heap→Prop) (X:AFrame→Heap→Prop) (h0:J H a FR H)
  (step:∀ i fr h,a≤i→i<N→Agree mod fr FR→J H i fr h→WP P raw base c ⟨fr,h⟩ (thenQ (fun s'=>Agree mod s'.fr FR∧J H (i+1) s'.fr s'.h) (inBlockQ id (thenQ (fun s'=>Agree mod s'.fr FR∧X s'.fr s'.h) Q))))
  (last:∀ fr h,Agree mod fr FR→J H N fr h→WP P raw base c ⟨fr,h⟩ (thenQ (fun _=>False) (inBlockQ id (thenQ (fun s'=>Agree mod s'.fr FR∧X s'.fr s'.h) Q))))
  (k:∀ fr h,Agree mod fr FR→X fr h→Q .normal ⟨fr,h⟩):WP P raw base (.loop c) ⟨FR,H⟩ (inBlockQ id Q):=by
 have key:∀ e s',inBlockQ id (thenQ (fun s'=>Agree mod s'.fr FR∧X s'.fr s'.h) Q) e s'→inBlockQ id Q e s':=fun e s' hq=>by
  cases e with
  | normal=>exact k _ _ hq.1 hq.2
  | ret=>exact hq
  | exit id' =>
   simp only [inBlockQ] at hq ⊢
   split
   ·rename_i c;rw [if_pos c] at hq;exact k _ _ hq.1 hq.2
   ·rename_i c;rw [if_neg c] at hq;exact hq
 refine WP_count mod a N haN J h0 (fun i fr h h1 h2 h3 h4=>?_) fun fr h h3 h4=>?_
 ·obtain ⟨e,s',h5,h6⟩:=step i fr h h1 h2 h3 h4
  refine ⟨e,s',h5,?_⟩
  cases e with
  | normal=>exact h6
  | ret=>exact key .ret s' h6
  | exit id'=>exact key (.exit id') s' h6
 ·obtain ⟨e,s',h5,h6⟩:=last fr h h3 h4
  refine ⟨e,s',h5,?_⟩
  cases e with
  | normal=>exact h6
  | ret=>exact key .ret s' h6
  | exit id'=>exact key (.exit id') s' h6
end Go.AM
