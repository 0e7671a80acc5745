/-
  Contracts of package card: moves, takers of all kinds.
-/
import Derived.Test.YtcemgempgbjbeaaGreatU17
import Derived.Test.YtcemgempgbjbeaaGreatU8
import Derived.Test.YtcemgempgbjbeaaGreatU16
import Derived.Test.YtcemgempgbjbeaaGreatU12
set_option linter.unusedSimpArgs false
set_option linter.unusedVariables false
namespace Go.AM
namespace L3
open Go.Proofs.Tryz
attribute [-go_sem] put_ne put_same
attribute [local go_sem ↓] put_if
abbrev papV (W:Int) (v:AVal):AVal:=.agg [.int .i64 W,v]
abbrev plnV (k n s:Int):AVal:=.agg [.int .i64 k,.int .i64 n,.int .i64 s]
abbrev inB (n:Int):ABlk:=⟨.cells [.int .i64 n] 3 false false,0⟩
abbrev plB (k n s:Int):ABlk:=⟨.cells [.int .i64 k,.int .i64 n,.int .i64 s] 266 false false,0⟩
def cdN (k n t:Nat):Nat:=if k=2 then t % n else if k=1∧1<n then min (t % (2 * n-2)) (2 * n-2-t % (2 * n-2)) else t % n
def mvN (k n s w t:Nat):Nat:=if k=2 then t / n * s % w else 0
def rtN (x b w:Nat):Nat:=x * 2 ^ b % 2 ^ w+x / 2 ^ (w-b)
theorem cdN_lt {k n t:Nat} (hn:1≤n):cdN k n t<n:=by
 unfold cdN
 split
 ·exact Nat.mod_lt _ hn
 ·split
  ·rename_i h2
   have:=Nat.mod_lt t (show 2 * n-2 > 0 by omega)
   omega
  ·exact Nat.mod_lt _ hn
theorem mvN_lt {k n s w t:Nat} (hw:1≤w):mvN k n s w t<w:=by
 unfold mvN
 split
 ·exact Nat.mod_lt _ hw
 ·omega
theorem or_bits {t:TypeId} {a b:Nat} (ha:a<1152921504606846976) (hb:b<1152921504606846976):binA prog .or t (.int .i64 (a:Int)) (.int .i64 (b:Int))=some (.int .i64 ((a ||| b:Nat):Int)):=by
 have hx:a ||| b<2 ^ 60:=Nat.or_lt_two_pow ha hb
 have e:BitVec.ofInt 64 (a:Int) ||| BitVec.ofInt 64 (b:Int)=BitVec.ofNat 64 (a ||| b):=by
  apply BitVec.eq_of_toNat_eq
  rw [BitVec.toNat_or,BitVec.ofInt_natCast,BitVec.ofInt_natCast,BitVec.toNat_ofNat,BitVec.toNat_ofNat,BitVec.toNat_ofNat,Nat.mod_eq_of_lt (a:=a) (by omega),Nat.mod_eq_of_lt (a:=b) (by omega),Nat.mod_eq_of_lt (by omega)]
 show some (AVal.int .i64 (IntKind.i64.wrap ((BitVec.ofInt 64 (a:Int) ||| BitVec.ofInt 64 (b:Int)).toNat:Int)))=_
 rw [e,BitVec.toNat_ofNat,Nat.mod_eq_of_lt (by omega),wrap64 (by omega) (by omega)]
theorem shl_bits {t:TypeId} {a b:Nat} (ha:a≤1000) (hb:b≤30):binA prog .shl t (.int .i64 (a:Int)) (.int .i64 (b:Int))=some (.int .i64 ((a * 2 ^ b:Nat):Int)):=by
 have hp:2 ^ b≤2 ^ 30:=Nat.pow_le_pow_right (by decide) hb
 have hm:a * 2 ^ b≤1000 * 2 ^ 30:=Nat.mul_le_mul ha hp
 rw [bin_shl (by omega)]
 have e:min (b:Int).toNat IntKind.i64.bits=b:=by simp [IntKind.bits];omega
 have e2:(a:Int) * 2 ^ b=((a * 2 ^ b:Nat):Int):=by simp
 rw [e,e2,wrap64 (by omega) (by omega)]
theorem shr_bits {t:TypeId} {a b:Nat} (hb:b≤60):binA prog .shr t (.int .i64 (a:Int)) (.int .i64 (b:Int))=some (.int .i64 ((a / 2 ^ b:Nat):Int)):=by
 rw [bin_shr (by omega)]
 have e:min (b:Int).toNat IntKind.i64.bits=b:=by simp [IntKind.bits];omega
 have e2:(2:Int) ^ b=((2 ^ b:Nat):Int):=by simp
 rw [e,e2,Int.fdiv_eq_ediv_of_nonneg _ (Int.natCast_nonneg _)]
 rfl
def rtOk:Bool:=(List.range 8).all fun w=>(List.range (2 ^ (w+1))).all fun a=>(List.range (w+1)).all fun b=>((a * 2 ^ b ||| a / 2 ^ (w+1-b)) % 2 ^ (w+1)) == (rtN a b (w+1))
theorem rtOk_true:rtOk=true:=by kernel_rfl
theorem rt_is {x b w:Nat} (hw:1≤w) (hw8:w≤8) (hx:x<2 ^ w) (hb:b<w):(x * 2 ^ b ||| x / 2 ^ (w-b)) % 2 ^ w=rtN x b w:=by
 have h1:=rtOk_true
 unfold rtOk at h1
 have h2:=List.all_eq_true.1 h1 (w-1) (by simp;omega)
 have ew:w-1+1=w:=by omega
 rw [ew] at h2
 have h3:=List.all_eq_true.1 h2 x (by simpa using hx)
 have h4:=List.all_eq_true.1 h3 b (by simpa using hb)
 exact eq_of_beq h4
theorem run_movedQ {base:Nat} {h:Heap} {x b w:Nat} (hw:1≤w∧w≤8) (hx:x<2 ^ w) (hb:b<w) :
  callL prog raw base (.fn 147 [] []) [.int .i64 (x:Int),.int .i64 (b:Int),.int .i64 (w:Int)] h=some (.int .i64 ((rtN x b w:Nat):Int),h):=by
 have hp:2 ^ w≤256:=by have:=Nat.pow_le_pow_right (show 0<2 by decide) hw.2;simpa using this
 have hpb:2 ^ b≤256:=by have:=Nat.pow_le_pow_right (show 0<2 by decide) (show b≤8 by omega);simpa using this
 have hm:x * 2 ^ b≤256 * 256:=Nat.mul_le_mul (by omega) hpb
 have hd:x / 2 ^ (w-b)≤x:=Nat.div_le_self _ _
 have ho:(x * 2 ^ b ||| x / 2 ^ (w-b))<2 ^ 20:=Nat.or_lt_two_pow (by omega) (by omega)
 have e1:=fun t=>shl_bits (t:=t) (a:=x) (b:=b) (by omega) (by omega)
 have e2:=fun t=>shr_bits (t:=t) (a:=x) (b:=w-b) (by omega)
 have e3:=fun t=>or_bits (t:=t) (a:=x * 2 ^ b) (b:=x / 2 ^ (w-b)) (by omega) (by omega)
 have e4:=fun t=>shl_bit (t:=t) (w:=w) (by omega)
 have e5:=fun t=>and_mask (t:=t) (a:=x * 2 ^ b ||| x / 2 ^ (w-b)) (w:=w) (by omega) (by omega)
 have e6:(w:Int)-(b:Int)=((w-b:Nat):Int):=by omega
 have hr:=rt_is hw.1 hw.2 hx hb
 rw [hr] at e5
 refine callL_run func147 rfl rfl ?_
 have hsp:=@Nat.succ_ne_zero;repeat' (first|simp (disch:=first|exact dqb|fail) only [go_sem,↓reduceIte,hsp,e1,e6,e2,e3,e4,e5]|refine WP_drw ?_|refine cnd_intro (fun hsp=>?_) fun hsp=>?_)
 exact fI rfl
theorem tdivQ (a b:Nat):(a:Int).tdiv b=((a / b:Nat):Int):=rfl
theorem run_tak1 {base i j m k n s w t:Nat} {h:Heap} (hi:h[i]?=some (inB (n:Int))) (hj:h[j]?=some (plB (k:Int) (n:Int) (s:Int))) (hm:h[m]?=some (inB (w:Int))) (hn:0<n) (hw:0<w) (ht:t≤10000000) (hs:s≤1000) :
  callL prog raw base (.fn 212 [] [.ptr (some ⟨i,0,0⟩),.ptr (some ⟨j,0,0⟩),.ptr (some ⟨m,0,0⟩)]) [.int .i64 (t:Int)] h=some (.tuple [.int .i64 ((t % n:Nat):Int),.int .i64 ((t / n * s % w:Nat):Int)],h):=by
 have r2:binA prog .quo 3 (.int .i64 (t:Int)) (.int .i64 (n:Int))=some (.int .i64 (IntKind.i64.wrap ((t / n:Nat):Int))):=by rw [bin_quo (by omega),tdivQ]
 have hq:t / n≤t:=Nat.div_le_self _ _
 obtain ⟨q,eq⟩:∃ q,q=t / n:=⟨_,rfl⟩
 rw [← eq] at r2 hq ⊢
 rw [wrap64 (by omega) (by omega)] at r2
 have hmu:q * s≤10000000 * 1000:=Nat.mul_le_mul (by omega) hs
 obtain ⟨p,ep⟩:∃ p,p=q * s:=⟨_,rfl⟩
 have r1:binA prog .rem 3 (.int .i64 (t:Int)) (.int .i64 (n:Int))=some (.int .i64 ((t % n:Nat):Int)):=by rw [bin_rem (by omega),tmodN]
 have r3:binA prog .mul 3 (.int .i64 (q:Int)) (.int .i64 (s:Int))=some (.int .i64 (p:Int)):=by rw [bin_mul,← Int.natCast_mul,← ep,wrap64 (by omega) (by omega)]
 have r4:binA prog .rem 3 (.int .i64 (p:Int)) (.int .i64 (w:Int))=some (.int .i64 ((p % w:Nat):Int)):=by rw [bin_rem (by omega),tmodN]
 rw [← ep]
 refine callL_run func212 rfl rfl ?_
 have hsp:=@Nat.succ_ne_zero;repeat' (first|simp (disch:=first|exact dqb|fail) only [go_sem,↓reduceIte,hsp,hi,hj,hm,r1,r2,r3,r4]|refine WP_drw ?_|refine cnd_intro (fun hsp=>?_) fun hsp=>?_)
 exact fII rfl rfl .refl
theorem run_tak2 {base i n t:Nat} {h:Heap} (hi:h[i]?=some (inB (n:Int))) (hn:2≤n) (hn2:n≤1000) :
  callL prog raw base (.fn 213 [] [.ptr (some ⟨i,0,0⟩)]) [.int .i64 (t:Int)] h=some (.tuple [.int .i64 ((min (t % (2 * n-2)) (2 * n-2-t % (2 * n-2)):Nat):Int),.int .i64 0],h):=by
 obtain ⟨c,ec⟩:∃ c,c=2 * n-2:=⟨_,rfl⟩
 rw [← ec]
 have hu:=Nat.mod_lt t (show c > 0 by omega)
 have e1:2 * (n:Int)-2=(c:Int):=by omega
 have r1:binA prog .rem 3 (.int .i64 (t:Int)) (.int .i64 (c:Int))=some (.int .i64 ((t % c:Nat):Int)):=by rw [bin_rem (by omega),tmodN]
 obtain ⟨u,eu⟩:∃ u,u=t % c:=⟨_,rfl⟩
 rw [← eu] at r1 hu ⊢
 have e2:(c:Int)-(u:Int)=((c-u:Nat):Int):=by omega
 have e3:min (u:Int) ((c-u:Nat):Int)=((min u (c-u):Nat):Int):=by omega
 refine callL_run func213 rfl rfl ?_
 have hsp:=@Nat.succ_ne_zero;repeat' (first|simp (disch:=first|exact dqb|fail) only [go_sem,↓reduceIte,hsp,hi,e1,r1,e2,e3]|refine WP_drw ?_|refine cnd_intro (fun hsp=>?_) fun hsp=>?_)
 exact fII rfl rfl .refl
def takF (k n:Int) (i:Nat):AVal:=if k=2 then .fn 212 [] [.ptr (some ⟨i,0,0⟩),.ptr (some ⟨i+1,0,0⟩),.ptr (some ⟨i+2,0,0⟩)] else if k=1∧n > 1 then .fn 213 [] [.ptr (some ⟨i,0,0⟩)] else .fn 214 [] [.ptr (some ⟨i,0,0⟩)]
def takH (k n s w:Int):Heap:=if k=2 then [inB n,plB k n s,inB w] else [inB n]
theorem takF_one {k n:Int} {i:Nat}:One (takF k n i):=by
 unfold takF
 split
 ·exact ⟨rfl,rfl,rfl⟩
 ·split<;>exact ⟨rfl,rfl,rfl⟩
theorem run_takerQ {base:Nat} {h:Heap} {k n s W:Int}:callL prog raw base (.fn 146 [] []) [plnV k n s,.int .i64 W] h=some (.agg [takF k n h.length],h++takH k n s W):=by
 have of:∀ {f:FuncId} {c:List AVal},One (.fn f [] c):=fun {f c}=>⟨rfl,rfl,rfl⟩
 have n0:∀ {js:List Nat} {u:Nat},newId h.length (js.map fun j=>h.length+j) h.length u=(h.length+js.idxOf 0,0):=fun {js u}=>newId_map (j:=0)
 have n1:∀ {js:List Nat} {u:Nat},newId h.length (js.map fun j=>h.length+j) (h.length+1) u=(h.length+js.idxOf 1,0):=fun {js u}=>newId_map (j:=1)
 have n3:∀ {js:List Nat} {u:Nat},newId h.length (js.map fun j=>h.length+j) (h.length+1+1+1) u=(h.length+js.idxOf 3,0):=fun {js u}=>newId_map (j:=3)
 have one:∀ {f:FuncId} {b0 b1 b2:ABlk},compact h.length (.agg [.fn f [] [.ptr (some ⟨h.length+1+1+1,0,0⟩)]]) (h++[b0]++[b1]++[b2]++[inB n])=some (.agg [.fn f [] [.ptr (some ⟨h.length,0,0⟩)]],h++[inB n]):=by
  intro f b0 b1 b2
  rw [List.append_assoc,List.append_assoc,List.append_assoc]
  rw [compact_many (js:=[3]) (by simp [AVal.refs,refsL]) (by decide) (by decide) (by
   intro j hj
   simp only [List.mem_singleton] at hj
   subst hj
   exact ⟨_,_,_,_,rfl,rfl⟩)]
  simp only [AVal.ren,renL,n3]
  rfl
 refine callL_run func146 rfl rfl ?_
 by_cases h1:k=2
 ·have t1:(k=2)=True:=eq_true h1
  have hsp:=@Nat.succ_ne_zero;repeat' (first|simp (disch:=first|exact dqb|fail) only [go_sem,↓reduceIte,hsp,of,t1]|refine WP_drw ?_|refine cnd_intro (fun hsp=>?_) fun hsp=>?_)
  rw [takF,takH,if_pos h1,if_pos h1,List.append_assoc,List.append_assoc,List.append_assoc]
  rw [compact_many (js:=[3,0,1]) (by simp [AVal.refs,refsL]) (by decide) (by decide) (by
   intro j hj
   simp only [List.mem_cons,List.not_mem_nil,or_false] at hj
   rcases hj with rfl|rfl|rfl
   ·exact ⟨_,_,_,_,rfl,rfl⟩
   ·exact ⟨_,_,_,_,rfl,rfl⟩
   ·exact ⟨_,_,_,_,rfl,rfl⟩)]
  simp only [AVal.ren,renL,n0,n1,n3]
  rfl
 ·have t1:(k=2)=False:=eq_false h1
  by_cases h2:k=1
  ·have t2:(k=1)=True:=eq_true h2
   by_cases h3:n > 1
   ·have t3:(n > 1)=True:=eq_true h3
    have hsp:=@Nat.succ_ne_zero;repeat' (first|simp (disch:=first|exact dqb|fail) only [go_sem,↓reduceIte,hsp,of,t1,t2,t3]|refine WP_drw ?_|refine cnd_intro (fun hsp=>?_) fun hsp=>?_)
    rw [takF,takH,if_neg h1,if_pos ⟨h2,h3⟩,if_neg h1]
    exact one
   ·have t3:(n > 1)=False:=eq_false h3
    have hsp:=@Nat.succ_ne_zero;repeat' (first|simp (disch:=first|exact dqb|fail) only [go_sem,↓reduceIte,hsp,of,t1,t2,t3]|refine WP_drw ?_|refine cnd_intro (fun hsp=>?_) fun hsp=>?_)
    rw [takF,takH,if_neg h1,if_neg (fun e=>h3 e.2),if_neg h1]
    exact one
  ·have t2:(k=1)=False:=eq_false h2
   have hsp:=@Nat.succ_ne_zero;repeat' (first|simp (disch:=first|exact dqb|fail) only [go_sem,↓reduceIte,hsp,of,t1,t2]|refine WP_drw ?_|refine cnd_intro (fun hsp=>?_) fun hsp=>?_)
   rw [takF,takH,if_neg h1,if_neg (fun e=>h2 e.1),if_neg h1]
   exact one
def TakAt (H:Heap) (i:Nat) (k n s w:Nat):Prop:=H[i]?=some (inB (n:Int))∧(k=2→H[i+1]?=some (plB (k:Int) (n:Int) (s:Int))∧H[i+2]?=some (inB (w:Int)))
theorem TakAt.ext {H H':Heap} {i k n s w:Nat} (x:TakAt H i k n s w) (e:Ext H H'):TakAt H' i k n s w:=⟨e.get x.1,fun hk=>⟨e.get (x.2 hk).1,e.get (x.2 hk).2⟩⟩
theorem TakAt.new {H:Heap} {k n s w:Nat}:TakAt (H++takH (k:Int) (n:Int) (s:Int) (w:Int)) H.length k n s w:=by
 unfold TakAt takH
 by_cases hk:k=2
 ·rw [if_pos (by omega)]
  refine ⟨by simp,fun _=>⟨by simp,by simp⟩⟩
 ·rw [if_neg (by omega)]
  exact ⟨by simp,fun h=>absurd h hk⟩
theorem run_tak {base i k n s w t:Nat} {H:Heap} (hT:TakAt H i k n s w) (hn:1≤n∧n≤1000) (hs:s≤1000) (hw:1≤w) (ht:t≤10000000) :
  callL prog raw base (takF (k:Int) (n:Int) i) [.int .i64 (t:Int)] H=some (.tuple [.int .i64 ((cdN k n t:Nat):Int),.int .i64 ((mvN k n s w t:Nat):Int)],H):=by
 unfold takF cdN mvN
 by_cases h2:k=2
 ·rw [if_pos (by omega),if_pos h2,if_pos h2]
  exact run_tak1 hT.1 (hT.2 h2).1 (hT.2 h2).2 (by omega) (by omega) ht hs
 ·rw [if_neg (by omega),if_neg h2,if_neg h2]
  by_cases h1:k=1∧1<n
  ·rw [if_pos (by omega),if_pos h1]
   exact run_tak2 hT.1 (by omega) (by omega)
  ·rw [if_neg (by omega),if_neg h1]
   exact run_taken hT.1 (by omega)
end L3
end Go.AM
namespace Go.AM
namespace L3
open Go.Proofs.Tryz
attribute [-go_sem] put_ne put_same
attribute [local go_sem ↓] put_if
structure PapOk (w:Nat) (l:List Int):Prop where
 hw:1≤w∧w≤8
 hn:1≤l.length∧l.length≤48
 hc:Crds w l
abbrev paB (W:Int) (v:AVal):ABlk:=⟨.cells [.int .i64 W,v] 54 false false,0⟩
abbrev dkB (W:Int) (v:AVal):ABlk:=⟨.cells [.int .i64 W,v] 268 false false,0⟩
theorem run_chk1P {base id:Nat} {h:Heap} {v:AVal} {w:Nat} {x:Int} (hg:h[id]?=some (paB (w:Int) v)) (hw:w≤8) (hx:0≤x∧x<((2 ^ w:Nat):Int)):callL prog raw base (.fn 204 [] [.ptr (some ⟨id,0,0⟩)]) [.int .i64 x] h=some (.bool true,h):=by
 have hp:=pow_lt (w:=w) (by omega)
 have e4:=fun t=>shl_bit (t:=t) (w:=w) (by omega)
 have t1:(0≤x∧x≤((2 ^ w:Nat):Int)-1)=True:=eq_true (by omega)
 refine callL_run func204 rfl rfl ?_
 have hsp:=@Nat.succ_ne_zero;repeat' (first|simp (disch:=first|exact dqb|fail) only [go_sem,↓reduceIte,hsp,hg,e4,t1]|refine WP_drw ?_|refine cnd_intro (fun hsp=>?_) fun hsp=>?_)
 exact fB rfl .refl
theorem run_checkP {base:Nat} {h:Heap} {v:AVal} {l:List Int} {w:Nat} (hI:Ints h v l) (ok:PapOk w l):callL prog raw base (.fn 135 [] []) [papV (w:Int) v] h=some (.int .i64 0,h):=by
 obtain ⟨hw,hl,hC⟩:=ok
 have o:=hI.one
 have t1:(1≤(w:Int)∧(w:Int)≤8)=True:=eq_true (by omega)
 have t2:(1≤(l.length:Int)∧(l.length:Int)≤48)=True:=eq_true (by omega)
 have ev:∀ {base:Nat} {T:Heap},T=h++[paB (w:Int) v]→callL prog raw base (.fn 142 [] []) [v,.fn 204 [] [.ptr (some ⟨h.length,0,0⟩)]] T=some (.bool true,T):=fun {base T} e=>by
  have hg:T[h.length]?=some (paB (w:Int) v):=by rw [e];exact get_eq rfl
  have:=every_C (base:=base) (h:=T) (v:=v) (g:=.fn 204 [] [.ptr (some ⟨h.length,0,0⟩)]) (l:=l) (fun _=>true) (by rw [e];exact hI.app) (fun base T x hx=>run_chk1P (get_app hg) hw.2 (hC x hx)) ⟨rfl,rfl,rfl⟩
  rwa [show (l.all fun _=>true)=true from List.all_eq_true.2 fun _ _=>rfl] at this
 have ev2:=fun base=>ev (base:=base) rfl
 refine callL_run func135 rfl rfl ?_
 have hsp:=@Nat.succ_ne_zero;repeat' (first|simp (disch:=first|exact dqb|fail) only [go_sem,↓reduceIte,hsp,t1,t2,ev2]|refine WP_drw ?_|refine cnd_intro (fun hsp=>?_) fun hsp=>?_)
 exact fI rfl (.app .refl)
def fndI (p:Nat→Bool) (n:Nat):Option Nat:=(List.range n).find? p
theorem fndI_some {p:Nat→Bool} {n t:Nat} (ht:t<n) (hp:p t=true) (hb:∀ j,j<t→p j=false):fndI p n=some t:=by
 rw [fndI,List.find?_range_eq_some]
 exact ⟨hp,by simpa using ht,fun j hj=>by simp [hb j hj]⟩
theorem fndI_none {p:Nat→Bool} {n:Nat} (hb:∀ j,j<n→p j=false):fndI p n=none:=by
 rw [fndI,List.find?_eq_none]
 intro j hj
 simp [hb j (by simpa using hj)]
theorem fndI_is {p:Nat→Bool} {n t:Nat} (h:fndI p n=some t):t<n∧p t=true∧∀ j,j<t→p j=false:=by
 rw [fndI,List.find?_range_eq_some] at h
 exact ⟨by simpa using h.2.1,h.1,fun j hj=>by simpa using h.2.2 j hj⟩
theorem fndI_not {p:Nat→Bool} {n:Nat} (h:fndI p n=none):∀ j,j<n→p j=false:=by
 rw [fndI,List.find?_eq_none] at h
 intro j hj
 simpa using h j (by simpa using hj)
theorem cdN_small {k n t:Nat} (h:t<n):cdN k n t=t:=by
 unfold cdN
 split
 ·exact Nat.mod_eq_of_lt h
 ·split
  ·rename_i h2
   by_cases e:t<2 * n-2
   ·rw [Nat.mod_eq_of_lt e];omega
   ·have:n=1 ∨ t=2 * n-2:=by omega
    omega
  ·exact Nat.mod_eq_of_lt h
theorem mvN_small {k n s w t:Nat} (h:t<n):mvN k n s w t=0:=by
 unfold mvN
 split
 ·rw [Nat.div_eq_of_lt h];simp
 ·rfl
theorem rt0 {x w:Nat} (h:x<2 ^ w):rtN x 0 w=x:=by
 unfold rtN
 rw [Nat.pow_zero,Nat.mul_one,Nat.mod_eq_of_lt h,Nat.sub_zero,Nat.div_eq_of_lt h];rfl
def offN (w:Nat) (l:List Int) (k n s t:Nat):Bool:=decide (((rtN (l.getD (cdN k n t) 0).toNat (mvN k n s w t) w:Nat):Int) ≠ l.getD t 0)
def fstS (w:Nat) (l:List Int) (k n s:Nat):Nat × Nat × Bool :=
 match fndI (offN w l k n s) l.length with|some t=>(cdN k n t,t,true)|none=>(0,0,false)
theorem off_small {w:Nat} {l:List Int} {k n s t:Nat} (ht:t<n) (hl:0≤l.getD t 0∧l.getD t 0<((2 ^ w:Nat):Int)):offN w l k n s t=false:=by
 unfold offN
 rw [cdN_small ht,mvN_small ht,rt0 (by omega)]
 exact decide_eq_false (by omega)
def cnF (i c:Nat):Int:=if c<i then -1 else 0
abbrev cnB (i:Nat):ABlk:=⟨.cells (ints (lst (cnF i) 48)) 353 false false,0⟩
def tknF (n t c:Nat):Int:=if c<t∧c<n then (c:Int) else -1
abbrev tknB (n t:Nat):ABlk:=⟨.cells (ints (lst (tknF n t) 48)) 353 false false,0⟩
set_option maxHeartbeats 4000000 in
theorem run_first1 {base:Nat} {h:Heap} {v:AVal} {l:List Int} {w k n s:Nat} (hI:Ints h v l) (ok:PapOk w l) (hk:k≤2) (hs:s≤1000) (hn:1≤n∧n≤l.length) :
  callL prog raw base (.fn 206 [] []) [papV (w:Int) v,plnV (k:Int) (n:Int) (s:Int)] h=some (.tuple [.int .i64 (((fstS w l k n s).1:Nat):Int),.int .i64 (((fstS w l k n s).2.1:Nat):Int),.bool (fstS w l k n s).2.2],h):=by
 obtain ⟨hw,hl,hC⟩:=ok
 have ov:=hI.one
 have otk:=fun i=>takF_one (k:=(k:Int)) (n:=(n:Int)) (i:=i)
 obtain ⟨A,eA⟩:∃ A,A=h++[dkB (w:Int) v]++[plB (k:Int) (n:Int) (s:Int)]:=⟨_,rfl⟩
 have xA:Ext h A:=by rw [eA];exact .app (.app .refl)
 have lA:A.length=h.length+2:=by rw [eA];simp
 have gd:A[h.length]?=some (dkB (w:Int) v):=by rw [eA];exact get_app (get_eq rfl)
 have gp:A[h.length+1]?=some (plB (k:Int) (n:Int) (s:Int)):=by rw [eA];exact get_eq (by simp)
 refine callL_run func206 rfl rfl ?_
 have hsp:=@Nat.succ_ne_zero;repeat' (first|simp (disch:=first|exact dqb|fail) only [go_sem,↓reduceIte,hsp,← eA]|refine WP_drw ?_|refine cnd_intro (fun hsp=>?_) fun hsp=>?_)
 refine WP_count [(8,21)] 0 48 (Nat.zero_le _) (fun _ i fr K=>fr 16=.int .i64 (i:Int)∧K=A++[(cnB i)]) ?_ ?_ ?_
 ·exact ⟨by (simp (disch:=first|exact dqb|fail) only [go_sem,↓reduceIte,Int.natCast_zero];first|done|rfl),rfl⟩
 ·rintro i fr K hi0 hi hA ⟨r16,eK⟩
  subst eK
  have q2:=hA 2 rfl
  have q3:=hA 3 rfl
  have q4:=hA 4 rfl
  have q5:=hA 5 rfl
  have q6:=hA 6 rfl
  have q7:=hA 7 rfl
  try simp (disch:=first|exact dqb|fail) only [go_sem,↓reduceIte] at q2 q3 q4 q5 q6 q7
  have hlt:((i:Int)<48)=True:=eq_true (by omega)
  have had:=Fc.ad353 (id:=A.length) (ver:=0) (o:=0) (i:=(i:Int)) (by omega) (by omega)
  rw [Int.toNat_natCast,Nat.mul_one,Nat.zero_add] at had
  have gK:(A++[(cnB i)])[A.length]?=some (cnB i):=get_eq rfl
  have hset:(A++[(cnB i)]).set A.length (cnB (i+1))=A++[(cnB (i+1))]:=by
   rw [List.set_append_right _ _ (Nat.le_refl _),Nat.sub_self];rfl
  have hcn:∀ c,(if c=i then (-1:Int) else cnF i c)=cnF (i+1) c:=fun c=>by
   unfold cnF
   by_cases e1:c=i
   ·rw [if_pos e1,if_pos (by omega)]
   ·rw [if_neg e1]
    by_cases e2:c<i
    ·rw [if_pos e2,if_pos (by omega)]
    ·rw [if_neg e2,if_neg (by omega)]
  have st1:∀ {K:ABlk→Heap},stQ h.length A.length (some (cnB i)) 0 i [.int .i64 (-1)] K=some (K (cnB (i+1))):=fun {K}=>by
   have e:lst (fun j=>if j=i then -1 else cnF i j) 48=lst (cnF (i+1)) 48:=lst_congr fun c _=>hcn c
   rw [stQ_ints (by rw [lst_len];omega),lst_set (by omega),e]
  have hsp:=@Nat.succ_ne_zero;repeat' (first|simp (disch:=first|exact dqb|fail) only [go_sem,↓reduceIte,hsp,r16,q2,q3,q4,q5,q6,q7,hlt,had,gK,st1,hset]|refine WP_drw ?_|refine cnd_intro (fun hsp=>?_) fun hsp=>?_)
  exact ⟨agq,by omega⟩
 ·rintro fr K hA ⟨r16,eK⟩
  have q2:=hA 2 rfl
  have q3:=hA 3 rfl
  have q4:=hA 4 rfl
  have q5:=hA 5 rfl
  have q6:=hA 6 rfl
  have q7:=hA 7 rfl
  try simp (disch:=first|exact dqb|fail) only [go_sem,↓reduceIte] at q2 q3 q4 q5 q6 q7
  have hlt:(((48:Nat):Int)<48)=False:=eq_false (by omega)
  have hlt2:((48:Int)<48)=False:=eq_false (by omega)
  have eK0:∀ N,lst (cnF N) N=lst (tknF n 0) N:=fun N=>lst_congr fun c hc=>by unfold cnF tknF;rw [if_pos hc,if_neg (by omega)]
  have eK1:K=A++[tknB n 0]:=by
   have e:=eK0 48
   rw [eK,cnB,e]
  obtain ⟨U,eU⟩:∃ U,U=takH (k:Int) (n:Int) (s:Int) (w:Int):=⟨_,rfl⟩
  obtain ⟨F,eF⟩:∃ F,F=takF (k:Int) (n:Int) (A.length+1):=⟨_,rfl⟩
  obtain ⟨Kt,eKt⟩:∃ Kt:Nat→Heap,Kt=fun t=>A++[tknB n t]++U++[⟨.cells [F] 275 false false,0⟩]:=⟨_,rfl⟩
  have hlKt:∀ t,(Kt t).length=A.length+1+U.length+1:=fun t=>by rw [eKt];simp;omega
  have gA:∀ t,Ext A (Kt t):=fun t=>by rw [eKt];exact .app (.app (.app .refl))
  have gT:∀ t,(Kt t)[A.length]?=some (tknB n t):=fun t=>by rw [eKt];exact get_app (get_app (get_eq rfl))
  have gF:∀ t,(Kt t)[A.length+1+U.length]?=some ⟨.cells [F] 275 false false,0⟩:=fun t=>by rw [eKt];exact get_eq (by simp;omega)
  have hTk:∀ t,TakAt (Kt t) (A.length+1) k n s w:=fun t=>by
   have:=TakAt.new (H:=A++[tknB n t]) (k:=k) (n:=n) (s:=s) (w:=w)
   rw [← eU,show (A++[tknB n t]).length=A.length+1 by simp] at this
   rw [eKt];exact this.ext (.app .refl)
  have sT:∀ t t',(Kt t).set A.length (tknB n t')=Kt t':=fun t t'=>by
   rw [eKt]
   simp only [List.append_assoc]
   rw [List.set_append_right _ _ (Nat.le_refl _),Nat.sub_self]
   rfl
  have oF:One F:=by rw [eF];exact takF_one
  have etk:=fun base=>run_takerQ (base:=base) (h:=K) (k:=(k:Int)) (n:=(n:Int)) (s:=(s:Int)) (W:=(w:Int))
  have lK:K.length=A.length+1:=by rw [eK1];simp
  rw [lK,← eU,← eF] at etk
  have gdK:K[h.length]?=some (dkB (w:Int) v):=by rw [eK1];exact get_app gd
  have gpK:K[h.length+1]?=some (plB (k:Int) (n:Int) (s:Int)):=by rw [eK1];exact get_app gp
  have e0:K++U++[⟨.cells [F] 275 false false,0⟩]=Kt 0:=by rw [eKt,eK1]
  have hgl:(K++U).length=A.length+1+U.length:=by simp [lK]
  have hlI:=lenI ((hI.ext xA).ext (gA 0))
  have gd0:=(gA 0).get gd
  have hsp:=@Nat.succ_ne_zero;repeat' (first|simp (disch:=first|exact dqb|fail) only [go_sem,↓reduceIte,hsp,r16,q2,q3,q4,q5,q6,q7,hlt,hlt2,gpK,gdK,etk,e0,hgl,gd0,hlI]|refine WP_drw ?_|refine cnd_intro (fun hsp=>?_) fun hsp=>?_)
  refine WP_count [(4,6),(10,15),(31,88)] 0 l.length (Nat.zero_le _) (fun _ t fr X=>fr 31=.int .i64 (t:Int)∧X=Kt t∧∀ j,j<t→offN w l k n s j=false) ?_ ?_ ?_
  ·exact ⟨by (simp (disch:=first|exact dqb|fail) only [go_sem,↓reduceIte,Int.natCast_zero];first|done|rfl),rfl,fun j hj=>by omega⟩
  ·rintro t fr2 X ht0 ht hA2 ⟨r31,eX,hP⟩
   subst eX
   have d2:=hA2 2 rfl
   have d7:=hA2 7 rfl
   have d9:=hA2 9 rfl
   have d29:=hA2 29 rfl
   have d30:=hA2 30 rfl
   try simp (disch:=first|exact dqb|fail) only [go_sem,↓reduceIte,q2,q7] at d2 d7 d9 d29 d30
   have hlt3:((t:Int)<(l.length:Int))=True:=eq_true (by omega)
   have iK:=(hI.ext xA).ext (gA t)
   have at1:=adrI (i:=(t:Int)) (by omega) iK (by omega)
   rw [Int.toNat_natCast] at at1
   have lt1:=loadI iK ht
   have gF1:=gF t
   have gT1:=gT t
   have gd1:=(gA t).get gd
   have rt1:=fun base=>run_tak (base:=base) (t:=t) (hTk t) (by omega) hs (by omega) (by omega)
   rw [← eF] at rt1
   have c1:=cdN_lt (k:=k) (n:=n) (t:=t) (by omega)
   have m1:=mvN_lt (k:=k) (n:=n) (s:=s) (w:=w) (t:=t) (by omega)
   obtain ⟨y,ey⟩:∃ y,y=l.getD t 0:=⟨_,rfl⟩
   have hy:=hC _ (getD_mem' (d:=(0:Int)) ht)
   have off0:t<n→∀ j,j<t+1→offN w l k n s j=false:=fun htn j hj=>by
    by_cases x1:j=t
    ·subst x1;exact off_small htn hy
    ·exact hP j (by omega)
   rw [← ey] at lt1 hy
   have hadc:=fun (c:Nat) (hc:c<48)=>by
    have:=Fc.ad353 (id:=A.length) (ver:=0) (o:=0) (i:=(c:Int)) (by omega) (by omega)
    rw [Int.toNat_natCast,Nat.mul_one,Nat.zero_add] at this
    exact this
   have hldc:=fun (c:Nat) (hc:c<48)=>show loadP prog (Kt t) 3 (.ptr (some ⟨A.length,0,c⟩))=some (.int .i64 (tknF n t c)) by
    rw [load_eq,Fc.ty3,gT1,ldB_ints (by rw [lst_len];exact hc),lst_get hc]
   by_cases htn:t<n
   ·have ec:cdN k n t=t:=cdN_small htn
    rw [ec] at rt1
    have had1:=hadc t (by omega)
    have hld1:=hldc t (by omega)
    have ev1:tknF n t t=-1:=by unfold tknF;rw [if_neg (by omega)]
    rw [ev1] at hld1
    have st1:∀ {Q:ABlk→Heap},stQ h.length A.length (some (tknB n t)) 0 t [.int .i64 (t:Int)] Q=some (Q (tknB n (t+1))):=fun {Q}=>by
     have e:lst (fun j=>if j=t then (t:Int) else tknF n t j) 48=lst (tknF n (t+1)) 48:=lst_congr fun c _=>by
      unfold tknF
      by_cases x1:c=t
      ·rw [if_pos x1,if_pos (by omega),x1]
      ·rw [if_neg x1]
       by_cases x2:c<t∧c<n
       ·rw [if_pos x2,if_pos (by omega)]
       ·rw [if_neg x2,if_neg (by omega)]
     rw [stQ_ints (by rw [lst_len];omega),lst_set (by omega),e]
    have sT1:=sT t (t+1)
    have hsp:=@Nat.succ_ne_zero;repeat' (first|simp (disch:=first|exact dqb|fail) only [go_sem,↓reduceIte,hsp,r31,d2,d7,d9,d29,d30,q2,q3,q4,q5,q6,q7,hlt3,at1,lt1,gF1,rt1,had1,hld1,eq_self,gT1,st1,sT1]|refine WP_drw ?_|refine cnd_intro (fun hsp=>?_) fun hsp=>?_)
    exact ⟨agq,by omega,off0 htn⟩
   ·obtain ⟨c,ec⟩:∃ c,c=cdN k n t:=⟨_,rfl⟩
    obtain ⟨m,em⟩:∃ m,m=mvN k n s w t:=⟨_,rfl⟩
    rw [← ec,← em] at rt1
    rw [← ec] at c1
    rw [← em] at m1
    have had1:=hadc c (by omega)
    have hld1:=hldc c (by omega)
    have ev1:tknF n t c=(c:Int):=by unfold tknF;rw [if_pos (by omega)]
    rw [ev1] at hld1
    have t1:((c:Int)=-1)=False:=eq_false (by omega)
    have rt2:=fun base=>run_tak (base:=base) (t:=c) (hTk t) (by omega) hs (by omega) (by omega)
    rw [← eF,cdN_small c1,mvN_small c1] at rt2
    have ac1:=adrI (i:=(c:Int)) (by omega) iK (by omega)
    rw [Int.toNat_natCast] at ac1
    have lc1:=loadI iK (i:=c) (by omega)
    have hx:=hC _ (getD_mem' (l:=l) (d:=(0:Int)) (i:=c) (by omega))
    obtain ⟨x,ex⟩:=Int.eq_ofNat_of_zero_le hx.1
    rw [ex] at lc1 hx
    have e5:(m:Int)-0+(w:Int)=((m+w:Nat):Int):=by omega
    have e6:binA prog .rem 3 (.int .i64 ((m+w:Nat):Int)) (.int .i64 (w:Int))=some (.int .i64 (m:Int)):=by
     rw [bin_rem (by omega),tmodN,Nat.add_mod_right,Nat.mod_eq_of_lt m1]
    have hmv:=fun base=>run_movedQ (base:=base) (h:=Kt t) (x:=x) (b:=m) (w:=w) hw (by omega) m1
    have hoff:offN w l k n s t=decide (((rtN x m w:Nat):Int) ≠ y):=by
     unfold offN;rw [← ec,← em,ex,← ey,Int.toNat_natCast]
    have same:∀ {j},(Kt (t+1))=Kt t ∨ j=0:=fun {j}=>.inl (by
     rw [eKt]
     have e:lst (tknF n (t+1)) 48=lst (tknF n t) 48:=lst_congr fun c _=>by
      unfold tknF
      by_cases x2:c<t∧c<n
      ·rw [if_pos x2,if_pos (by omega)]
      ·rw [if_neg x2,if_neg (by omega)]
     simp only [tknB,e])
    have same1:Kt (t+1)=Kt t:=by
     rcases same (j:=1) with e|e
     ·exact e
     ·cases e
    by_cases cy:((rtN x m w:Nat):Int)=y
    ·have t2:(((rtN x m w:Nat):Int)=y)=True:=eq_true cy
     have hsp:=@Nat.succ_ne_zero;repeat' (first|simp (disch:=first|exact dqb|fail) only [go_sem,↓reduceIte,hsp,r31,d2,d7,d9,d29,d30,q2,q3,q4,q5,q6,q7,hlt3,at1,lt1,gF1,rt1,had1,hld1,t1,rt2,ac1,lc1,gd1,e5,e6,hmv,neB,ne_eq,t2,not_true,decide_false]|refine WP_drw ?_|refine cnd_intro (fun hsp=>?_) fun hsp=>?_)
     refine ⟨agq,by omega,same1.symm,fun j hj=>?_⟩
     by_cases x1:j=t
     ·rw [x1,hoff];exact decide_eq_false (fun q=>q cy)
     ·exact hP j (by omega)
    ·have t2:(((rtN x m w:Nat):Int)=y)=False:=eq_false cy
     have hsp:=@Nat.succ_ne_zero;repeat' (first|simp (disch:=first|exact dqb|fail) only [go_sem,↓reduceIte,hsp,r31,d2,d7,d9,d29,d30,q2,q3,q4,q5,q6,q7,hlt3,at1,lt1,gF1,rt1,had1,hld1,t1,rt2,ac1,lc1,gd1,e5,e6,hmv,neB,ne_eq,t2,not_false_iff,decide_true]|refine WP_drw ?_|refine cnd_intro (fun hsp=>?_) fun hsp=>?_)
     have e8:fstS w l k n s=(c,t,true):=by
      unfold fstS
      rw [fndI_some (t:=t) ht (by rw [hoff];exact decide_eq_true cy) hP]
      show (cdN k n t,t,true)=_
      rw [← ec]
     rw [e8]
     exact fIIB rfl rfl rfl (xA.trans (gA t))
  ·rintro fr2 X hA2 ⟨r31,eX,hP⟩
   subst eX
   have d2:=hA2 2 rfl
   have d7:=hA2 7 rfl
   have d9:=hA2 9 rfl
   have d29:=hA2 29 rfl
   have d30:=hA2 30 rfl
   try simp (disch:=first|exact dqb|fail) only [go_sem,↓reduceIte,q2,q7] at d2 d7 d9 d29 d30
   have hlt3:((l.length:Int)<(l.length:Int))=False:=eq_false (by omega)
   have e8:fstS w l k n s=(0,0,false):=by
    unfold fstS
    rw [fndI_none hP]
   have hsp:=@Nat.succ_ne_zero;repeat' (first|simp (disch:=first|exact dqb|fail) only [go_sem,↓reduceIte,hsp,r31,d2,d7,d9,d29,d30,q2,q3,q4,q5,q6,q7,hlt3]|refine WP_drw ?_|refine cnd_intro (fun hsp=>?_) fun hsp=>?_)
   rw [e8]
   exact fIIB rfl rfl rfl (xA.trans (gA _))
end L3
end Go.AM
namespace Go.AM
namespace L3
open Go.Proofs.Tryz
attribute [-go_sem] put_ne put_same
attribute [local go_sem ↓] put_if
theorem fst_all {w:Nat} {l:List Int} (ok:PapOk w l) {k s:Nat}:(fstS w l k l.length s).2.2=false:=by
 unfold fstS
 rw [fndI_none fun i hi=>off_small hi (ok.hc _ (getD_mem' (d:=(0:Int)) hi))]
def onlI (w:Nat) (l:List Int) (k s:Nat):Option Nat:=fndI (fun m=>!(fstS w l k (m+1) s).2.2) l.length
end L3
end Go.AM
namespace Go.AM
namespace L3
open Go.Proofs.Tryz
theorem refs_pap {w:Nat} {v:AVal}:refsL [.int .i64 (w:Int),v]=v.refs:=by simp [refsL,AVal.refs]
theorem run_plans {base:Nat} {h:Heap} {v:AVal} {l:List Int} {w:Nat} {n:Int} (hI:Ints h v l):callL prog raw base (.fn 205 [] []) [papV w v,.int .i64 n] h =
  some (.fn 258 [] [.ptr (some ⟨h.length,0,0⟩),.ptr (some ⟨h.length+1,0,0⟩)],h++[inB n,⟨.cells [.int .i64 (w:Int),v] 268 false false,0⟩]):=by
 refine callL_run func205 rfl rfl ?_
 have hsp:=@Nat.succ_ne_zero;repeat' (first|simp (disch:=first|exact dqb|fail) only [go_sem,hsp]|refine WP_drw ?_|refine cnd_intro (fun hsp=>?_) fun hsp=>?_)
 rw [List.append_assoc]
 have hlow:=hI.refs_lt
 have hlen:=hI.refs_len
 rw [compact_gen (js:=[1,0]) (bs:=[inB n,⟨.cells [.int .i64 (w:Int),v] 268 false false,0⟩]) (by simp [AVal.refs,refsL]) (by decide) ?_ ?_ rfl]
 ·have n0:∀ {js:List Nat} {u:Nat},newId h.length (js.map fun j=>h.length+j) h.length u=(h.length+js.idxOf 0,0):=fun {js u}=>newId_map (j:=0)
  have n1:∀ {js:List Nat} {u:Nat},newId h.length (js.map fun j=>h.length+j) (h.length+1) u=(h.length+js.idxOf 1,0):=fun {js u}=>newId_map (j:=1)
  simp only [AVal.ren,renL,n0,n1]
  rfl
 ·intro j hj
  simp only [List.mem_cons,List.not_mem_nil,or_false] at hj
  rcases hj with rfl|rfl
  ·exact ⟨_,_,_,_,rfl,by simp [refsL,AVal.refs],by simp [renL,AVal.ren]⟩
  ·refine ⟨_,_,_,_,rfl,by rw [refs_pap];exact hlow,?_⟩
   simp only [renL,AVal.ren,hI.ren_low]
 ·simp [rcost,blkRefs,ABody.refs,refsL,AVal.refs]
  omega
def planK (j:Nat):Int:=if j=0 then 0 else if j=1 then 1 else 2
def planT (j:Nat):Int:=if j≤1 then 0 else (j:Int)-1
theorem run_plans1 {base m L cp dp:Nat} {H0:Heap} {v:AVal} {w:Nat} {n:Int} (hw:1≤w∧w≤8) (J:Nat→Heap→Prop) (S:Heap→Prop) (happ:∀ j H T,J j H→J j (H++T)) (hm:∀ j H,J j H→m≤H.length)
  (hget:∀ j H,J j H→H[cp]?=some (inB n)∧H[dp]?=some ⟨.cells [.int .i64 (w:Int),v] 268 false false,0⟩)
  (hy:∀ j H,j<w+1→J j H→∃ b H',callL prog raw base (.yld L) [plnV (planK j) n (planT j)] H=some (.bool b,H')∧(∀ i x,m≤i→H[i]?=some x→H'[i]?=some x)∧(b=true→J (j+1) H')∧(b=false→S H'))
  (h0:J 0 H0):∃ H',callL prog raw base (.fn 258 [] [.ptr (some ⟨cp,0,0⟩),.ptr (some ⟨dp,0,0⟩)]) [.yld L] H0=some (.tuple [],H')∧(J (w+1) H' ∨ S H'):=by
 have key:=callL_rawW (P:=prog) (raw:=raw) (base:=base) (f:=258) (fn:=f258) (first:=[]) (captured:=[.ptr (some ⟨cp,0,0⟩),.ptr (some ⟨dp,0,0⟩)]) (args:=[.yld L]) (h:=H0) (K:=fun v H'=>v=.tuple []∧(J (w+1) H' ∨ S H')) func258 rfl rfl ?_
 ·obtain ⟨v,H',h1,rfl,h2⟩:=key
  exact ⟨H',h1,h2⟩
 have bs:∀ {lit:Bool} {H:Heap},lit=false→bsA prog lit H 352 2 [(0,.int .i64 0),(1,.int .i64 1)]=some (.slice (some ⟨H.length,0,0⟩) 2 2,H++[⟨.cells [.int .i64 0,.int .i64 1] 48 true false,0⟩]):=fun {lit H} hl=>by
  subst hl
  simp [bsA,rowOf,Fc.el352,fillA,repCells,AVal.isN,AVal.cells,splice]
 have len:∀ {H:Heap} {o m k:Nat},lenOpA prog H 352 (.slice (some ⟨o,0,0⟩) m k)=some (.int .i64 (m:Int)):=fun {H o m k}=>by simp [lenOpA,Fc.el352,lenA]
 have adr:∀ {o m k:Nat} {i:Int},0≤i→i<m→indexAddrA prog 352 (.slice (some ⟨o,0,0⟩) m k) (.int .i64 i)=some (.ptr (some ⟨o,0,i.toNat⟩)):=fun {o m k i} h0 h1=>by
  simp [indexAddrA,Fc.ar352,Fc.el352,h0,h1,ARef.add]
 have hm0:=hm 0 H0 h0
 have hsp:=@Nat.succ_ne_zero;repeat' (first|simp (disch:=first|exact dqb|fail) only [go_sem,hsp,bs,len]|refine WP_drw ?_|refine cnd_intro (fun hsp=>?_) fun hsp=>?_)
 refine WP_loop (fun σ=>∃ i:Nat,i≤2∧σ.fr 9=.int .i64 (i:Int)∧σ.fr 8=.int .i64 2∧σ.fr 7=.slice (some ⟨H0.length,0,0⟩) 2 2∧σ.fr 0=.yld L∧σ.fr 1=.ptr (some ⟨cp,0,0⟩)∧σ.fr 2=.ptr (some ⟨dp,0,0⟩) ∧
  σ.h[H0.length]?=some ⟨.cells [.int .i64 0,.int .i64 1] 48 true false,0⟩∧J i σ.h) (fun σ=>match σ.fr 9 with|.int _ x=>(2-x).toNat|_=>0) ?_ ?_
 ·refine ⟨0,by omega,by simp (disch:=first|exact dqb|fail) only [go_sem,Int.natCast_zero],by (first|(simp (disch:=first|exact dqb|fail) only [go_sem];done)|(simp (disch:=first|exact dqb|fail) only [go_sem];rfl)),by simp (disch:=first|exact dqb|fail) only [go_sem],by simp (disch:=first|exact dqb|fail) only [go_sem],by simp (disch:=first|exact dqb|fail) only [go_sem],by simp (disch:=first|exact dqb|fail) only [go_sem],by simp,happ _ _ _ h0⟩
 ·rintro ⟨fr,H⟩ ⟨i,hi,r9,r8,r7,r0,r1,r2,hb,hJ⟩
  dsimp only at r9 r8 r7 r0 r1 r2 hb hJ
  obtain ⟨hg1,hg2⟩:=hget i H hJ
  by_cases hi2:i<2
  ·have hv:([.int .i64 0,.int .i64 1]:List AVal)[i]?=some (.int .i64 (planK i)):=by
    have:i=0 ∨ i=1:=by omega
    rcases this with rfl|rfl<;>rfl
   have ht:planT i=0:=by unfold planT;rw [if_pos (by omega)]
   obtain ⟨b,H',hc,hkeep,ht',hf⟩:=hy i H (by omega) hJ
   rw [ht] at hc
   have hi2':((i:Int)<2)=True:=eq_true (by omega)
   have hsp:=@Nat.succ_ne_zero;repeat' (first|simp (disch:=first|exact dqb|fail) only [go_sem,hsp,r9,r8,r7,r0,r1,r2,bs,len,adr,hb,hg1,inB,hv,hc,hi2']|refine WP_drw ?_|refine cnd_intro (fun hsp=>?_) fun hsp=>?_)
   ·exact .inr (hf (by simpa using ‹_›))
   ·refine ⟨⟨i+1,by omega,by simp,hkeep _ _ hm0 hb,ht' (by cases b with|true=>rfl|false=>exact absurd rfl (by assumption))⟩,by omega⟩
  ·have hi2':((i:Int)<2)=False:=eq_false (by omega)
   have e2:i=2:=by omega
   subst e2
   have hsp:=@Nat.succ_ne_zero;repeat' (first|simp (disch:=first|exact dqb|fail) only [go_sem,hsp,r9,r8,r7,r0,r1,r2,bs,len,hi2']|refine WP_drw ?_|refine cnd_intro (fun hsp=>?_) fun hsp=>?_)
   refine WP_loop (fun σ=>∃ i:Nat,1≤i∧(i:Int)≤w∧σ.fr 6=.int .i64 (i:Int)∧σ.fr 0=.yld L∧σ.fr 1=.ptr (some ⟨cp,0,0⟩)∧σ.fr 2=.ptr (some ⟨dp,0,0⟩)∧J (i+1) σ.h) (fun σ=>match σ.fr 6 with|.int _ x=>(w-x).toNat|_=>0) ?_ ?_
   ·refine ⟨1,by omega,by omega,by (first|(simp (disch:=first|exact dqb|fail) only [go_sem,r0,r1,r2];done)|(simp (disch:=first|exact dqb|fail) only [go_sem,r0,r1,r2];rfl)),by simp (disch:=first|exact dqb|fail) only [go_sem,r0,r1,r2],by simp (disch:=first|exact dqb|fail) only [go_sem,r0,r1,r2],by simp (disch:=first|exact dqb|fail) only [go_sem,r0,r1,r2],hJ⟩
   ·rintro ⟨fr,H⟩ ⟨i,hi1,hi,r6,r0,r1,r2,hJ⟩
    dsimp only at r6 r0 r1 r2 hJ
    obtain ⟨hg1,hg2⟩:=hget (i+1) H hJ
    by_cases hiw:(i:Int)<w
    ·have hp:planK (i+1)=2:=by unfold planK;rw [if_neg (by omega),if_neg (by omega)]
     have ht:planT (i+1)=i:=by unfold planT;rw [if_neg (by omega)];omega
     obtain ⟨b,H',hc,hkeep,ht',hf⟩:=hy (i+1) H (by omega) hJ
     rw [ht,hp] at hc
     have hiw':((i:Int)<w)=True:=eq_true hiw
     have hsp:=@Nat.succ_ne_zero;repeat' (first|simp (disch:=first|exact dqb|fail) only [go_sem,hsp,r6,r0,r1,r2,hg1,hg2,inB,hc,hiw']|refine WP_drw ?_|refine cnd_intro (fun hsp=>?_) fun hsp=>?_)
     ·exact .inr (hf (by simpa using ‹_›))
     ·refine ⟨⟨i+1,by omega,by omega,by simp,ht' (by cases b with|true=>rfl|false=>exact absurd rfl (by assumption))⟩,by omega⟩
    ·have hiw':((i:Int)<w)=False:=eq_false hiw
     have hsp:=@Nat.succ_ne_zero;repeat' (first|simp (disch:=first|exact dqb|fail) only [go_sem,hsp,r6,r0,r1,r2,hg1,hg2,inB,hiw']|refine WP_drw ?_|refine cnd_intro (fun hsp=>?_) fun hsp=>?_)
     have e:i+1=w+1:=by omega
     rw [e] at hJ
     exact .inl hJ
theorem yld_plans {base L cp dp:Nat} {v:AVal} {w:Nat} {n:Int} {I:Nat→Heap→Prop} (hw:1≤w∧w≤8) (hI:∀ j H,I j H→H[cp]?=some (inB n)∧H[dp]?=some ⟨.cells [.int .i64 (w:Int),v] 268 false false,0⟩) :
  Yields prog raw base L (.fn 258 [] [.ptr (some ⟨cp,0,0⟩),.ptr (some ⟨dp,0,0⟩)]) (w+1) (fun j=>[plnV (planK j) n (planT j)]) I:=by
 intro J S H0 hL hJ happ hy h0
 obtain ⟨H',h1,h2⟩:=run_plans1 (m:=L+1) hw J S happ (fun j H h=>(hJ j H h).2) (fun j H h=>hI j H (hJ j H h).1) hy h0
 exact ⟨_,H',h1,h2⟩
def okP (w:Nat) (l:List Int) (n j:Nat):Bool:=!(fstS w l (planK j).toNat n (planT j).toNat).2.2
def fewJ (w:Nat) (l:List Int) (n:Nat):Option Nat:=fndI (okP w l n) (w+1)
def fewN (w:Nat) (l:List Int):Option Nat:=fndI (fun m=>(fewJ w l (m+1)).isSome) l.length
def fewestS (w:Nat) (l:List Int):Int × Int × Int :=
 match fewN w l with
 | some m=>match fewJ w l (m+1) with|some j=>(planK j,(m:Int)+1,planT j)|none=>(0,l.length,0)
 | none=>(0,l.length,0)
theorem planK_bd {j:Nat}:0≤planK j∧planK j≤2:=by
 unfold planK;split
 ·omega
 ·split<;>omega
theorem planT_bd {j:Nat} (h:j≤9):0≤planT j∧planT j≤1000:=by
 unfold planT;split<;>omega
theorem okP_all {w:Nat} {l:List Int} (ok:PapOk w l):okP w l l.length 0=true:=by
 unfold okP
 rw [show (planK 0).toNat=0 from rfl,show (planT 0).toNat=0 from rfl,fst_all ok];rfl
theorem fewN_some {w:Nat} {l:List Int} (ok:PapOk w l):∃ m j,fewN w l=some m∧fewJ w l (m+1)=some j:=by
 have hp:=ok.hn
 cases h:fewN w l with
 | some m =>
  have h1:=(fndI_is h).2.1
  cases h2:fewJ w l (m+1) with
  | some j=>exact ⟨m,j,rfl,h2⟩
  | none=>rw [h2] at h1;cases h1
 | none =>
  have h1:=fndI_not h (l.length-1) (by omega)
  rw [show l.length-1+1=l.length by omega] at h1
  cases h2:fewJ w l l.length with
  | some j=>rw [h2] at h1;cases h1
  | none =>
   have:=fndI_not h2 0 (by omega)
   rw [okP_all ok] at this
   cases this
def z3:List AVal:=[.int .i64 0,.int .i64 0,.int .i64 0]
def FB (h H:Heap) (w:Nat) (v:AVal) (out:List AVal):Prop:=Ext h H∧H[h.length]?=some ⟨.cells [.int .i64 (w:Int),v] 268 false false,0⟩∧H[h.length+1]?=some ⟨.cells z3 266 false false,0⟩ ∧
 H[h.length+2]?=some ⟨.cells z3 266 false false,0⟩∧H[h.length+3]?=some ⟨.cells out 266 false false,0⟩
theorem FB.app {h H T:Heap} {w:Nat} {v:AVal} {out:List AVal} (f:FB h H w v out):FB h (H++T) w v out :=
 ⟨f.1.app,get_app f.2.1,get_app f.2.2.1,get_app f.2.2.2.1,get_app f.2.2.2.2⟩
theorem FB.set {h H:Heap} {w:Nat} {v:AVal} {out:List AVal} {i:Nat} {b:ABlk} (f:FB h H w v out) (hi:h.length+4≤i):FB h (H.set i b) w v out:=by
 refine ⟨f.1.set (by omega),?_,?_,?_,?_⟩
 ·rw [get_set f.2.1,if_neg (by omega)]
 ·rw [get_set f.2.2.1,if_neg (by omega)]
 ·rw [get_set f.2.2.2.1,if_neg (by omega)]
 ·rw [get_set f.2.2.2.2,if_neg (by omega)]
theorem FB.out {h H:Heap} {w:Nat} {v:AVal} {out out':List AVal} (f:FB h H w v out):FB h (H.set (h.length+3) ⟨.cells out' 266 false false,0⟩) w v out':=by
 refine ⟨f.1.set (by omega),?_,?_,?_,?_⟩
 ·rw [get_set f.2.1,if_neg (by omega)]
 ·rw [get_set f.2.2.1,if_neg (by omega)]
 ·rw [get_set f.2.2.2.1,if_neg (by omega)]
 ·rw [get_set f.2.2.2.2,if_pos rfl]
theorem FB.len {h H:Heap} {w:Nat} {v:AVal} {out:List AVal} (f:FB h H w v out):h.length+4≤H.length:=lt_of_get f.2.2.2.2
theorem run_fewestQ {base:Nat} {h:Heap} {v:AVal} {l:List Int} {w:Nat} (hI:Ints h v l) (ok:PapOk w l) :
  callL prog raw base (.fn 136 [] []) [papV w v] h=some (plnV (fewestS w l).1 (fewestS w l).2.1 (fewestS w l).2.2,h):=by
 have hw:=ok.hw
 have hp:=ok.hn
 have ov:=hI.one
 have hlI:=fun (T:Heap)=>lenI (hI.ext (.app (t:=T) .refl))
 refine callL_run func136 rfl rfl ?_
 have hsp:=@Nat.succ_ne_zero;repeat' (first|simp (disch:=first|exact dqb|fail) only [go_sem,hsp,hlI]|refine WP_drw ?_|refine cnd_intro (fun hsp=>?_) fun hsp=>?_)
 refine WP_loop (fun σ=>∃ i:Nat,i≤l.length∧σ.fr 16=.int .i64 (i:Int)∧σ.fr 15=.int .i64 l.length∧σ.fr 1=.ptr (some ⟨h.length,0,0⟩)∧σ.fr 2=.ptr (some ⟨h.length+1,0,0⟩)∧σ.fr 3=.ptr (some ⟨h.length+2,0,0⟩)∧σ.fr 4=.ptr (some ⟨h.length+3,0,0⟩) ∧
  FB h σ.h w v z3∧∀ j,j<i→(fewJ w l (j+1)).isSome=false) (fun σ=>match σ.fr 16 with|.int _ x=>(l.length-x).toNat|_=>0) ?_ ?_
 ·refine ⟨0,by omega,by simp (disch:=first|exact dqb|fail) only [go_sem,Int.natCast_zero],by simp (disch:=first|exact dqb|fail) only [go_sem],by simp (disch:=first|exact dqb|fail) only [go_sem],by simp (disch:=first|exact dqb|fail) only [go_sem],by simp (disch:=first|exact dqb|fail) only [go_sem],by simp (disch:=first|exact dqb|fail) only [go_sem],?_,fun j hj=>by omega⟩
  dsimp only
  refine ⟨.app (.app (.app (.app .refl))),by simp (disch:=first|exact dqb|fail) only [go_sem],by simp (disch:=first|exact dqb|fail) only [go_sem,z3],?_,?_⟩
  ·rw [get_lt (by simp),get_eq (by simp)];rfl
  ·rw [get_eq (by simp)];rfl
 ·rintro ⟨fr,H⟩ ⟨i,hi,r16,r15,r1,r2,r3,r4,hf,hno⟩
  dsimp only at r16 r15 r1 r2 r3 r4 hf
  have hf0:=hf
  obtain ⟨hE,g0,g1,g2,g3⟩:=hf
  have hI':=hI.ext hE
  have hlI:=lenI hI'
  by_cases hil:i<l.length
  ·have hil':((i:Int)<l.length)=True:=eq_true (by omega)
   have pl:=fun base=>run_plans (base:=base) (w:=w) (n:=(i:Int)+1) hI'
   have hsp:=@Nat.succ_ne_zero;repeat' (first|simp (disch:=first|exact dqb|fail) only [go_sem,hsp,r16,r15,r1,r2,r3,r4,g0,hil',pl]|refine WP_drw ?_|refine cnd_intro (fun hsp=>?_) fun hsp=>?_)
   refine WP_range (f:=258) (a:=[]) (c:=[.ptr (some ⟨H.length,0,0⟩),.ptr (some ⟨H.length+1,0,0⟩)]) (by simp (disch:=first|exact dqb|fail) only [go_sem]) (N:=w+1) (xs:=fun j=>[plnV (planK j) ((i:Int)+1) (planT j)])
    (fun j H2=>FB h H2 w v z3∧H2[H.length]?=some (inB ((i:Int)+1))∧H2[H.length+1]?=some ⟨.cells [.int .i64 (w:Int),v] 268 false false,0⟩∧∀ t,t<j→okP w l (i+1) t=false)
    (fun e H2=>e=.exit 0∧∃ j,fewJ w l (i+1)=some j∧FB h H2 w v [.int .i64 (planK j),.int .i64 ((i:Int)+1),.int .i64 (planT j)])
    (yld_plans hw (fun j H2 hh=>⟨hh.2.1,hh.2.2.1⟩)) (fun j=>rfl) (fun j H2 T hh=>⟨hh.1.app,get_app hh.2.1,get_app hh.2.2.1,hh.2.2.2⟩) ?_ ?_ ?_ ?_ ?_ ?_
   ·intro j H2 b hh
    have hl:=hf0.len
    refine ⟨hh.1.set (by simp;omega),?_,?_,hh.2.2.2⟩
    ·rw [get_set hh.2.1,if_neg (by simp)]
    ·rw [get_set hh.2.2.1,if_neg (by simp)]
   ·rintro e H2 b ⟨he,j,h1,h2⟩
    have hl:=hf0.len
    exact ⟨he,j,h1,h2.set (by simp;omega)⟩
   ·refine ⟨hf0.app.app,get_app (by simp),get_app (by simp),fun t ht=>by omega⟩
   ·rintro j H2 B1 B2 hj ⟨hf2,hc2,hd2,hno2⟩ hlen2 hl2
    have hl:=hf0.len
    have hL:(H++[inB ((i:Int)+1),⟨.cells [.int .i64 (w:Int),v] 268 false false,0⟩]).length=H.length+2:=by simp
    rw [hL] at hlen2 hl2 ⊢
    have hI2:=hI.ext hf2.1
    have hf3:=(hf2.set (i:=H.length+2) (b:=B2) (by omega)).app (T:=[⟨.cells [.int .i64 (planK j),.int .i64 ((i:Int)+1),.int .i64 (planT j)] 266 false false,0⟩])
    have hI3:Ints (H2.set (H.length+2) B2++[⟨.cells [.int .i64 (planK j),.int .i64 ((i:Int)+1),.int .i64 (planT j)] 266 false false,0⟩]) v l:=hI.ext hf3.1
    obtain ⟨-,k0,k1,k2,k3⟩:=hf3
    have kb:=planK_bd (j:=j)
    have tb:=planT_bd (j:=j) (by omega)
    have f1:=fun base=>run_first1 (base:=base) (k:=(planK j).toNat) (n:=i+1) (s:=(planT j).toNat) hI3 ok (by omega) (by omega) (by omega)
    rw [show (((planK j).toNat:Nat):Int)=planK j by omega,show (((planT j).toNat:Nat):Int)=planT j by omega,show (((i+1:Nat)):Int)=(i:Int)+1 by omega] at f1
    cases c:(fstS w l (planK j).toNat (i+1) (planT j).toNat).2.2 with
    | false =>
     rw [c] at f1
     have hsp:=@Nat.succ_ne_zero;repeat' (first|simp (disch:=first|exact dqb|fail) only [go_sem,hsp,r1,r2,r3,r4,k0,k3]|refine WP_drw ?_|refine cnd_intro (fun hsp=>?_) fun hsp=>?_)
     refine ⟨hl2,?_⟩
     have hlt:=lt_of_get hl2
     have hsp:=@Nat.succ_ne_zero;repeat' (first|simp (disch:=first|exact dqb|fail) only [go_sem,hsp,r1,r2,r3,r4,k0,k3,z3,f1]|refine WP_drw ?_|refine cnd_intro (fun hsp=>?_) fun hsp=>?_)
     refine ⟨fun q x hq hx=>?_,.inr ⟨(fun hh=>by cases hh),j,?_,?_⟩⟩
     ·rw [get_app]
      rw [get_set_ne (by omega),get_set_ne (by omega)]
      exact hx
     ·exact fndI_some hj (by unfold okP;rw [c];rfl) hno2
     ·exact (hf2.set (i:=H.length+2) (b:=B2) (by omega)).out.app
    | true =>
     rw [c] at f1
     have hsp:=@Nat.succ_ne_zero;repeat' (first|simp (disch:=first|exact dqb|fail) only [go_sem,hsp,r1,r2,r3,r4,k0,k3]|refine WP_drw ?_|refine cnd_intro (fun hsp=>?_) fun hsp=>?_)
     refine ⟨hl2,?_⟩
     have hlt:=lt_of_get hl2
     have hsp:=@Nat.succ_ne_zero;repeat' (first|simp (disch:=first|exact dqb|fail) only [go_sem,hsp,r1,r2,r3,r4,k0,k3,z3,f1]|refine WP_drw ?_|refine cnd_intro (fun hsp=>?_) fun hsp=>?_)
     refine ⟨fun q x hq hx=>?_,.inl ⟨(hf2.set (i:=H.length+2) (b:=B2) (by omega)).app,hc2,hd2,fun t ht=>?_⟩⟩
     ·rw [get_app]
      rw [get_set_ne (by omega)]
      exact hx
     ·by_cases e:t=j
      ·subst e
       unfold okP
       rw [c];rfl
      ·exact hno2 t (by omega)
   ·rintro H2 ⟨hf2,hc2,hd2,hno2⟩
    have hsp:=@Nat.succ_ne_zero;repeat' (first|simp (disch:=first|exact dqb|fail) only [go_sem,hsp,r16,r15,r1,r2,r3,r4]|refine WP_drw ?_|refine cnd_intro (fun hsp=>?_) fun hsp=>?_)
    refine ⟨⟨i+1,by omega,by simp,hf2,fun j hj=>?_⟩,by omega⟩
    by_cases e:j=i
    ·subst e
     unfold fewJ
     rw [fndI_none fun t ht=>hno2 t ht]
     rfl
    ·exact hno j (by omega)
   ·rintro e H2 he ⟨rfl,j,h1,h2⟩
    obtain ⟨hE2,k0,k1,k2,k3⟩:=h2
    have hz:(planK j=0∧(i:Int)+1=0∧planT j=0)=False:=eq_false (by omega)
    have hlt:=lt_of_get k1
    have hsp:=@Nat.succ_ne_zero;repeat' (first|simp (disch:=first|exact dqb|fail) only [go_sem,hsp,r1,r2,r3,r4,k1,k2,k3,z3,hz]|refine WP_drw ?_|refine cnd_intro (fun hsp=>?_) fun hsp=>?_)
    have hfs:fewestS w l=(planK j,(i:Int)+1,planT j):=by
     unfold fewestS fewN
     rw [fndI_some (t:=i) hil (by rw [h1];rfl) (fun m hm=>hno m hm)]
     simp only [h1]
    rw [hfs]
    exact fin_pl rfl rfl (hE2.set (by omega))
  ·exfalso
   obtain ⟨m,j,h1,h2⟩:=fewN_some ok
   have:=(fndI_is h1).1
   have h3:=hno m (by omega)
   rw [h2] at h3
   cases h3
end L3
end Go.AM
namespace Go.AM
namespace L3
open Go.Proofs.Tryz
attribute [-go_sem] put_ne put_same
attribute [local go_sem ↓] put_if
theorem few_bd {w:Nat} {l:List Int} (ok:PapOk w l):1≤(fewestS w l).2.1∧(fewestS w l).2.1≤l.length:=by
 obtain ⟨m,j,h1,h2⟩:=fewN_some ok
 have hm:=(fndI_is h1).1
 have:fewestS w l=(planK j,(m:Int)+1,planT j):=by
  unfold fewestS
  rw [h1]
  simp only [h2]
 rw [this]
 dsimp only;omega
theorem pap_small {w:Nat} {l:List Int} (ok:PapOk w l):Small l:=by
 have hw:=ok.hw
 have hn:=ok.hn
 have hp:2 ^ w≤256:=by have:=Nat.pow_le_pow_right (show 0<2 by decide) hw.2;simpa using this
 exact ⟨by omega,fun x hx=>by have:=ok.hc x hx;omega⟩
theorem nil_of_nilB {h:Heap} {v:AVal} {l:List Int} (hI:Ints h v l) (hl:l ≠ []):nilB v=false:=by
 cases hn:nilB v with
 | false=>rfl
 | true=>exact absurd (hI.nilB_nil hn).2 hl
theorem run_FewestC {base:Nat} {h:Heap} {v:AVal} {l:List Int} {w:Nat} (hI:Ints h v l) (ok:PapOk w l) :
  ∃ (k s:Int) (c:Nat),(c:Int)=(fewestS w l).2.1∧callL prog raw base (.fn 51 [] []) [papV (w:Int) v] h=some (.tuple [chV (w:Int) (.slice (some ⟨h.length,0,0⟩) c c) k s,.int .i64 0],h++[rowB (l.take c) 0]):=by
 have ov:=hI.one
 obtain ⟨b1,b2⟩:=few_bd ok
 obtain ⟨k,n,s,ef⟩:∃ k n s,fewestS w l=(k,n,s):=⟨_,_,_,rfl⟩
 rw [ef] at b1 b2
 obtain ⟨c,ec⟩:=Int.eq_ofNat_of_zero_le (show 0≤n by dsimp only at b1;omega)
 subst ec
 dsimp only at b1 b2
 have hcl:(l.take c).length=c:=by rw [List.length_take];omega
 have hne:l.take c ≠ []:=fun q=>by rw [q] at hcl;simp at hcl;omega
 have hs:=pap_small ok
 have hts:Small (l.take c):=⟨by rw [hcl];have:=hs.1;omega,fun x hx=>hs.2 x (List.mem_of_mem_take hx)⟩
 obtain ⟨A,eA⟩:∃ A,A=h++[paB (w:Int) v]++[⟨.cells [.int .i64 0,.slice none 0 0,.int .i64 0,.int .i64 0] 50 false false,0⟩]:=⟨_,rfl⟩
 have xA:Ext h A:=by rw [eA];exact .app (.app .refl)
 have lA:A.length=h.length+2:=by rw [eA];simp
 have ga:A[h.length]?=some (paB (w:Int) v):=by rw [eA];exact get_app (get_eq rfl)
 have gc:A[h.length+1]?=some ⟨.cells [.int .i64 0,.slice none 0 0,.int .i64 0,.int .i64 0] 50 false false,0⟩:=by rw [eA];exact get_eq (by simp)
 have ck:=fun base=>run_checkP (base:=base) (hI.ext xA) ok
 have fw:=fun base=>run_fewestQ (base:=base) (hI.ext xA) ok
 rw [ef] at fw
 obtain ⟨B,eB⟩:∃ B,B=A++[plB k (c:Int) s]:=⟨_,rfl⟩
 have xB:Ext A B:=by rw [eB];exact .app .refl
 have lB':B.length=h.length+3:=by rw [eB];simp [lA]
 have gb:B[A.length]?=some (plB k (c:Int) s):=by rw [eB];exact get_eq rfl
 have ga2:=xB.get ga
 have gc2:=xB.get gc
 have iB2:=(hI.ext xA).ext xB
 have sl:sliceA prog 35 v none (some (.int .i64 (c:Int))) none=some (slcV v 0 c):=by
  have:=sl_hi (P:=prog) (n:=(c:Int)) Fc.el35 Fc.ar35 (by omega) hI (by omega)
  rwa [Int.toNat_natCast] at this
 have iS:=Ints.slc iB2 (Nat.zero_le 0) (show 0≤l.length by omega)
 have iS:=Ints.slc iB2 (Nat.zero_le c) (show c≤l.length by omega)
 rw [List.drop_zero] at iS
 have cl:=fun base=>run_clone (base:=base) iS hts
 rw [cloneV,cloneH,nil_of_nilB iS hne] at cl
 simp only [Bool.false_eq_true,if_false,newV_ne hne,newH_ne hne,hcl] at cl
 refine ⟨k,s,c,by rw [ef],?_⟩
 refine callL_run func51 rfl rfl ?_
 have hsp:=@Nat.succ_ne_zero;repeat' (first|simp (disch:=first|exact dqb|fail) only [go_sem,↓reduceIte,hsp,← eA,ga,ck,neB,ne_eq,eq_self,not_true,decide_false,fw,← eB,gb,ga2,gc2,sl,cl]|refine WP_drw ?_|refine cnd_intro (fun hsp=>?_) fun hsp=>?_)
 have hxt:Ext h (B.set (h.length+1) ⟨.cells [.int .i64 (w:Int),.slice (some ⟨B.length,0,0⟩) c c,.int .i64 k,.int .i64 s] 50 false false,0⟩++[rowB (l.take c) 0]):=((xA.trans xB).set (by omega)).app
 have hb:(B.set (h.length+1) ⟨.cells [.int .i64 (w:Int),.slice (some ⟨B.length,0,0⟩) c c,.int .i64 k,.int .i64 s] 50 false false,0⟩++[rowB (l.take c) 0])[h.length+3]?=some (rowB (l.take c) 0):=get_eq (by simp [lB'])
 have:=fin_nw (h:=h) (f:=fun x=>.tuple [.agg [.int .i64 (w:Int),x,.int .i64 k,.int .i64 s],.int .i64 0]) (l:=l.take c) (j:=3) (fun x=>by simp [AVal.refs,refsL]) (fun g x=>by simp [AVal.ren,renL]) hne hxt hb rfl rfl
 rw [newV_ne hne,newH_ne hne,hcl,← lB'] at this
 exact this
end L3
end Go.AM
namespace Go.AM
namespace L3
open Go.Proofs.Tryz
attribute [-go_sem] put_ne put_same
attribute [local go_sem ↓] put_if
end L3
end Go.AM
namespace Go.AM
open Go.Proofs.Tryz
attribute [-go_sem] put_ne put_same
attribute [local go_sem ↓] put_if
theorem few8:(L3.fewestS 4 [1,2,4,8,1,2]).2.1=1:=by decide +kernel
theorem pap8:L3.PapOk 4 [1,2,4,8,1,2]:=⟨by decide,by decide,by unfold L3.Crds;decide⟩
end Go.AM
namespace Go.AM
open Go.Proofs.Tryz
attribute [-go_sem] put_ne put_same
attribute [local go_sem ↓] put_if
def samT (c d:Int × Int):Bool:=decide (c.1=d.1∧c.2=d.2)
end Go.AM
namespace Go.AM
open Go.Proofs.Tryz
attribute [-go_sem] put_ne put_same
attribute [local go_sem ↓] put_if
theorem run_egr {base:Nat} {h:Heap} {n x:Int} {v:AVal} (hI:Ints h v [x]):callL prog raw base (.fn 294 [] []) [.int .i64 n,v] h=some (.int .i64 (max n x),h):=by
 have hlen:=lenI hI
 have hov:=hI.one
 have a0:=adrI (i:=0) (by omega) hI (by simp)
 have l0:=loadI hI (i:=0) (by simp)
 have l0:loadP prog h 3 (elAddr v (0:Int).toNat)=some (.int .i64 x):=l0
 have e1:(([x]:List Int).length:Int)=1:=rfl
 have t1:((0:Int)<1)=True:=eq_true (by omega)
 have t2:((1:Int)<1)=False:=eq_false (by omega)
 rw [e1] at hlen
 refine callL_run func294 rfl rfl ?_
 have hsp:=@Nat.succ_ne_zero;repeat' (first|simp (disch:=first|exact dqb|fail) only [go_sem,↓reduceIte,hsp,hlen]|refine WP_drw ?_|refine cnd_intro (fun hsp=>?_) fun hsp=>?_)
 rw [WP_loop1]
 have hsp:=@Nat.succ_ne_zero;repeat' (first|simp (disch:=first|exact dqb|fail) only [go_sem,↓reduceIte,hsp,hlen,t1,a0,l0]|refine WP_drw ?_|refine cnd_intro (fun hsp=>?_) fun hsp=>?_)
 rw [WP_loop1]
 have hsp:=@Nat.succ_ne_zero;repeat' (first|simp (disch:=first|exact dqb|fail) only [go_sem,↓reduceIte,hsp,t2]|refine WP_drw ?_|refine cnd_intro (fun hsp=>?_) fun hsp=>?_)
 exact fI rfl
abbrev Shd:=Int × Int × Int
def enc3:Enc Shd:=⟨3,fun s=>[.int .i64 s.1,.int .i64 s.2.1,.int .i64 s.2.2],fun _=>rfl,by decide⟩
def encE:Enc (Shd × Int):=⟨4,fun s=>[.int .i64 s.1.1,.int .i64 s.1.2.1,.int .i64 s.1.2.2,.int .i64 s.2],fun _=>rfl,by decide⟩
structure EyT where
 E:List (Shd × Int)
 L:List Shd
 P:List Shd
abbrev eyB (ev lv pv:AVal):ABlk:=⟨.cells [ev,lv,pv] 249 false false,0⟩
def EDk (H:Heap) (id:Nat) (T:EyT):Prop:=∃ ev lv pv,H[id]?=some (eyB ev lv pv)∧Rows encE H ev T.E∧Rows enc3 H lv T.L∧Rows enc3 H pv T.P
theorem EDk.ext {H H':Heap} {id:Nat} {T:EyT} (x:EDk H id T) (e:Ext H H'):EDk H' id T:=by
 obtain ⟨ev,lv,pv,g,a,b,c⟩:=x
 exact ⟨ev,lv,pv,e.get g,a.ext e,b.ext e,c.ext e⟩
def absd (x y:Int):Int:=max (x-y) (y-x)
def seeD (w l a b:Shd):Int:=absd a.1 b.1 * w.1 * l.1+absd a.2.1 b.2.1 * w.2.1 * l.2.1+absd a.2.2 b.2.2 * w.2.2 * l.2.2
end Go.AM
