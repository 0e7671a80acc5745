/-
  Plain: wants that are used or needed, prices, faults that are made or mended.
-/
import Derived.Test.YtikgghhceolaeaaGreatU11
set_option linter.unusedSimpArgs false
set_option linter.unusedVariables false
namespace Go.AM
def rlxL (K:List Int) (y:Nat) (a:Int):List Int:=K.set y (max (K.getD y 0) a)
def bfX (R:Rib) (x:Nat) (K:List Int):List Int:=(cutL R x).foldl (fun K' c=>rlxL K' c.2.1.toNat (K.getD x 0+c.2.2)) (rlxL K (x+1) (K.getD x 0))
def bfN (R:Rib):Nat→List Int
 | 0=>List.replicate 61 0
 | n+1=>bfX R n (bfN R n)
def useB (R:Rib) (a:Int) (c:Ct × Int × Int):Bool:=decide (a+c.2.2+valD R c.2.1.toNat=valD R 0)
def usF (R:Rib) (a:Int) (o:List Int) (c:Ct × Int × Int):List Int:=if useB R a c=true then (if c.1.w ∈ o then o else o++[c.1.w]) else o
def usN (R:Rib):Nat→List Int
 | 0=>[]
 | n+1=>(cutL R n).foldl (usF R ((bfN R n).getD n 0)) (usN R n)
def usdL (R:Rib):List Int:=(upto R.W.length).filter fun k=>decide (k ∈ usN R R.L.toNat)
def witR (R:Rib) (k:Nat):Rib:=⟨R.L,R.F,R.W.eraseIdx k⟩
def nedL (R:Rib):List Int:=(upto R.W.length).filter fun k=>decide (valD (witR R k.toNat) 0<valD R 0)
def prcR (R:Rib) (k:Nat) (p:Int):Rib:=⟨R.L,R.F,R.W.modify k fun w=>{ w with pr:=p }⟩
def rseN (R:Rib) (k:Nat):Nat→Int→Option Int
 | 0,_=>none
 | n+1,p=>if (k:Int) ∈ usdL (prcR R k p) then some p else rseN R k n (p+1)
def prcW (R:Rib) (k:Nat):Int:=match R.W[k]? with|some w=>w.pr|none=>0
def rseL (R:Rib) (k:Nat):Option Int:=rseN R k (101-prcW R k).toNat (prcW R k)
def lowL (F:List Int) (u:Int):List Int:=F.takeWhile fun y=>decide (y<u)
def insL (F:List Int) (u:Int):List Int:=lowL F u++u :: F.drop (lowL F u).length
def addR (R:Rib) (u:Int):Rib:=⟨R.L,insL R.F u,R.W⟩
def delR (R:Rib) (u:Int):Rib:=⟨R.L,R.F.eraseIdx (lowL R.F u).length,R.W⟩
def dmgL (R:Rib) (u:Int):Int × Int :=
 if ¬ (0≤u∧u≤R.L-1) then (0,1) else if u ∈ R.F then (0,5) else if (R.F.length:Int)=12 then (0,9) else (valD R 0-valD (addR R u) 0,0)
def menL (R:Rib) (u:Int):Int × Int :=
 if ¬ (0≤u∧u≤R.L-1) then (0,1) else if u ∈ R.F then (valD (delR R u) 0-valD R 0,0) else (0,6)
section
variable {R:Rib} {x:Nat}
theorem rlxL_len {K:List Int} {y:Nat} {a:Int}:(rlxL K y a).length=K.length:=by simp [rlxL]
theorem rlxL_at {K:List Int} {y i:Nat} {a:Int} (hy:y<K.length):(rlxL K y a).getD i 0=rlx (fun i=>K.getD i 0) y a i:=by
 unfold rlxL rlx
 rw [List.getD_eq_getElem?_getD,List.getElem?_set]
 by_cases h:y=i
 ·subst h;rw [if_pos rfl,if_pos hy,if_pos rfl];rfl
 ·rw [if_neg h,if_neg (fun q=>h q.symm)];show _=K.getD i 0;rw [List.getD_eq_getElem?_getD]
theorem bfX_len {K:List Int}:(bfX R x K).length=K.length:=by
 unfold bfX
 refine foldl_inv (I:=fun K':List Int=>K'.length=K.length) rlxL_len fun b c _ h=>?_
 rw [rlxL_len];exact h
theorem bfN_len:∀ {n},(bfN R n).length=61
 | 0=>by simp [bfN]
 | n+1=>by rw [bfN,bfX_len,bfN_len]
theorem bfX_at (hR:RibOk R) (hx:x<R.L.toNat) {K:List Int} (hK:K.length=61):(fun i=>(bfX R x K).getD i 0)=fwX R id x fun i=>K.getD i 0:=by
 have hL:=hR.L
 unfold bfX fwX
 have main:∀ (l:List (Ct × Int × Int)) (K1:List Int) (K2:Nat→Int),(∀ c ∈ l,c ∈ cutL R x)→K1.length=61→(fun i=>K1.getD i 0)=K2 →
   (fun i=>(l.foldl (fun K' c=>rlxL K' c.2.1.toNat (K.getD x 0+c.2.2)) K1).getD i 0)=l.foldl (fun K' c=>rlx K' c.2.1.toNat ((fun i=>K.getD i 0) x+id c.2.2)) K2:=by
  intro l
  induction l with
  | nil=>intro K1 K2 _ _ h;exact h
  | cons c l ih =>
   intro K1 K2 hl hk h
   rw [List.foldl_cons,List.foldl_cons]
   have hb:=(cutL_b hR hx (hl c (by simp))).1
   refine ih _ _ (fun d hd=>hl d (by simp [hd])) (by rw [rlxL_len];exact hk) ?_
   funext i
   rw [rlxL_at (by omega),h];rfl
 refine main (cutL R x) (rlxL K (x+1) (K.getD x 0)) (rlx (fun i=>K.getD i 0) (x+1) (K.getD x 0)) (fun _ h=>h) (by rw [rlxL_len];exact hK) ?_
 funext i
 rw [rlxL_at (by omega)]
theorem bfN_at (hR:RibOk R):∀ {n:Nat},n≤R.L.toNat→(fun i=>(bfN R n).getD i 0)=fwN R id n 0 fun _=>0
 | 0,_=>by
  funext i
  simp only [bfN,fwN,List.getD_eq_getElem?_getD,List.getElem?_replicate]
  split<;>rfl
 | n+1,h=>by
  rw [bfN,bfX_at hR (by omega) bfN_len,bfN_at hR (by omega),fwN_succ,Nat.zero_add]
def befD (R:Rib) (x:Nat):Int:=(bfN R x).getD x 0
theorem befD_fw (hR:RibOk R) (hx:x≤R.L.toNat) {n:Nat} (hn:x≤n) (hn2:n≤R.L.toNat):fwN R id n 0 (fun _=>0) x=befD R x:=by
 unfold befD
 have h1:(bfN R x).getD x 0=fwN R id x 0 (fun _=>0) x:=congrFun (bfN_at hR hx) x
 rw [h1]
 have:∀ m,x+m≤R.L.toNat→fwN R id (x+m) 0 (fun _=>0) x=fwN R id x 0 (fun _=>0) x:=by
  intro m
  induction m with
  | zero=>intro _;rfl
  | succ m ih =>
   intro hm
   rw [show x+(m+1)=(x+m)+1 by omega,fwN_succ,fwX_low hR (by omega) (by omega),ih (by omega)]
 have:=this (n-x) (by omega)
 rwa [show x+(n-x)=n by omega] at this
theorem bfN_bd (hR:RibOk R) {n:Nat} (hn:n≤R.L.toNat):∀ y,n≤y→y≤R.L.toNat→0≤(bfN R n).getD y 0∧(bfN R n).getD y 0+valD R y≤valD R 0:=by
 have hF:Fw R (valD R) 0 n (fwN R id n 0 fun _=>0):=by
  induction n with
  | zero=>exact ⟨fun y _ h2=>by have:=(valD_back hR).mono y 0 (by omega);rw [Nat.zero_add] at this;simp only [fwN];omega,0,Nat.le_refl _,by omega,by simp [fwN]⟩
  | succ n ih =>
   rw [fwN_succ,Nat.zero_add]
   exact (ih (by omega)).step hR (valD_back hR) (by omega)
 have h0:∀ n,∀ y,0≤fwN R id n 0 (fun _=>0) y:=by
  intro n
  induction n with
  | zero=>intro y;exact Int.le_refl _
  | succ n ih =>
   intro y
   rw [fwN_succ]
   unfold fwX
   refine foldl_inv (I:=fun K':Nat→Int=>0≤K' y) (Int.le_trans (ih y) rlx_ge) fun b c _ h=>Int.le_trans h rlx_ge
 intro y h1 h2
 have e:(bfN R n).getD y 0=fwN R id n 0 (fun _=>0) y:=congrFun (bfN_at hR hn) y
 rw [e]
 exact ⟨h0 n y,hF.le y h1 h2⟩
theorem bfN_all (hR:RibOk R):∀ {n:Nat},n≤R.L.toNat→∀ y,0≤(bfN R n).getD y 0∧(bfN R n).getD y 0≤6000:=by
 intro n hn y
 have hL:=hR.L
 have e:∀ n,n≤R.L.toNat→∀ y,(bfN R n).getD y 0=fwN R id n 0 (fun _=>0) y:=fun n hn y=>congrFun (bfN_at hR hn) y
 by_cases h1:y<n
 ·have h2:=bfN_bd hR (n:=y) (by omega) y (Nat.le_refl _) (by omega)
  have h3:=befD_fw hR (x:=y) (by omega) (n:=n) (by omega) hn
  unfold befD at h3
  rw [e n hn y,h3]
  have:=valD_bd hR (x:=y)
  have:=valD_bd hR (x:=0)
  omega
 ·by_cases h2:y≤R.L.toNat
  ·have h3:=bfN_bd hR hn y (by omega) h2
   have:=valD_bd hR (x:=y)
   have:=valD_bd hR (x:=0)
   omega
  ·have:∀ n,n≤R.L.toNat→fwN R id n 0 (fun _=>0) y=0:=by
    intro n
    induction n with
    | zero=>intro _;rfl
    | succ n ih =>
     intro hn
     rw [fwN_succ]
     unfold fwX
     refine foldl_inv (I:=fun K':Nat→Int=>K' y=0) (by rw [rlx_ne (by omega)];exact ih (by omega)) fun b c hc h=>?_
     have hb:=(cutL_b hR (by omega) hc).1
     rw [rlx_ne (by omega)];exact h
   rw [e n hn y,this n hn];omega
theorem bfX_part (hR:RibOk R) (hx:x<R.L.toNat) {K:List Int} (h:∀ y,0≤K.getD y 0∧K.getD y 0≤6000) (hK:K.length=61) {l:List (Ct × Int × Int)} (hl:∀ c ∈ l,c ∈ cutL R x) :
  ∀ y,0≤(l.foldl (fun K' c=>rlxL K' c.2.1.toNat (K.getD x 0+c.2.2)) (rlxL K (x+1) (K.getD x 0))).getD y 0∧(l.foldl (fun K' c=>rlxL K' c.2.1.toNat (K.getD x 0+c.2.2)) (rlxL K (x+1) (K.getD x 0))).getD y 0≤6100:=by
 have hL:=hR.L
 refine (foldl_inv (I:=fun K':List Int=>K'.length=61∧∀ y,0≤K'.getD y 0∧K'.getD y 0≤6100) ⟨by rw [rlxL_len];exact hK,fun y=>?_⟩ fun b c hc hI=>⟨by rw [rlxL_len];exact hI.1,fun y=>?_⟩).2
 ·rw [rlxL_at (by omega)]
  have:=h y
  have:=h x
  have:=h (x+1)
  unfold rlx;dsimp only;split<;>omega
 ·have hb:=(cutL_b hR hx (hl c hc)).1
  have hL:=hR.L
  rw [rlxL_at (by have:=hI.1;omega)]
  have:=hI.2 y
  have:=hI.2 c.2.1.toNat
  have:=h x
  unfold rlx;dsimp only;split<;>omega
theorem usF_mem {a:Int} {o:List Int} {c:Ct × Int × Int} {k:Int}:k ∈ usF R a o c ↔ k ∈ o ∨ (useB R a c=true∧c.1.w=k):=by
 unfold usF
 by_cases h:useB R a c=true
 ·rw [if_pos h]
  by_cases h2:c.1.w ∈ o
  ·rw [if_pos h2]
   exact ⟨.inl,fun q=>q.elim id fun z=>z.2 ▸ h2⟩
  ·rw [if_neg h2,List.mem_append,List.mem_singleton]
   exact ⟨fun q=>q.imp id fun z=>⟨h,z.symm⟩,fun q=>q.imp id fun z=>z.2.symm⟩
 ·rw [if_neg h]
  exact ⟨.inl,fun q=>q.elim id fun z=>absurd z.1 h⟩
theorem usF_nodup {a:Int} {o:List Int} {c:Ct × Int × Int} (h:o.Nodup):(usF R a o c).Nodup:=by
 unfold usF
 split
 ·split
  ·exact h
  ·rename_i h2
   rw [List.nodup_append]
   refine ⟨h,by simp,fun x hx y hy e=>?_⟩
   simp at hy
   subst hy;subst e;exact h2 hx
 ·exact h
theorem usN_mem {k:Int}:∀ {n:Nat},k ∈ usN R n ↔ ∃ x,x<n∧∃ c ∈ cutL R x,useB R (befD R x) c=true∧c.1.w=k
 | 0=>by simp [usN]
 | n+1=>by
  have ih:=usN_mem (k:=k) (n:=n)
  have main:∀ (l:List (Ct × Int × Int)) (o:List Int),k ∈ l.foldl (usF R (befD R n)) o ↔ k ∈ o ∨ ∃ c ∈ l,useB R (befD R n) c=true∧c.1.w=k:=by
   intro l
   induction l with
   | nil=>intro o;simp
   | cons c l ihl =>
    intro o
    rw [List.foldl_cons,ihl,usF_mem]
    simp only [List.mem_cons,exists_eq_or_imp]
    exact or_assoc
  show k ∈ (cutL R n).foldl (usF R (befD R n)) (usN R n) ↔ _
  rw [main,ih]
  constructor
  ·rintro (⟨x,h1,h2⟩|h)
   ·exact ⟨x,by omega,h2⟩
   ·exact ⟨n,by omega,h⟩
  ·rintro ⟨x,h1,h2⟩
   by_cases e:x=n
   ·subst e;exact .inr h2
   ·exact .inl ⟨x,by omega,h2⟩
theorem usN_nodup:∀ {n:Nat},(usN R n).Nodup
 | 0=>by simp [usN]
 | n+1=>by
  have:=usN_nodup (n:=n)
  exact foldl_inv (I:=fun o:List Int=>o.Nodup) this fun b c _ h=>usF_nodup h
theorem usN_b (hR:RibOk R) {n:Nat} (hn:n≤R.L.toNat) {k:Int} (h:k ∈ usN R n):0≤k∧k<R.W.length:=by
 obtain ⟨x,hx,c,hc,_,rfl⟩:=usN_mem.1 h
 have hb:=cutL_b hR (by omega) hc
 exact ⟨hb.2.2.1,hb.2.2.2.1⟩
theorem usdL_mem (hR:RibOk R) {k:Int}:k ∈ usdL R ↔ k ∈ usN R R.L.toNat:=by
 unfold usdL
 rw [List.mem_filter,upto_mem,decide_eq_true_eq]
 exact ⟨fun h=>h.2,fun h=>⟨usN_b hR (Nat.le_refl _) h,h⟩⟩
theorem usdL_rise:(usdL R).Pairwise (·<·):=(upto_sorted _).filter _
theorem usN_len (hR:RibOk R) {n:Nat} (hn:n≤R.L.toNat):(usN R n).length≤6:=by
 have:=pigeon (R:=fun (a:Int) (b:Nat)=>a=(b:Int)) (l:=usN R n) (t:=List.range R.W.length) usN_nodup (fun a ha=>⟨a.toNat,List.mem_range.2 (by have:=usN_b hR hn ha;omega),by have:=usN_b hR hn ha;omega⟩) (fun a _ c _ b _ h1 h2=>h1.trans h2.symm)
 rw [List.length_range] at this
 have:=hR.nW;omega
end
section
variable {R:Rib}
theorem RibOk.wit (hR:RibOk R) (k:Nat):RibOk (witR R k):=⟨hR.L,hR.nF,by have:=List.length_eraseIdx_le R.W k;have:=hR.nW;simp only [witR];omega,fun w hw=>hR.W w (List.mem_of_mem_eraseIdx hw),hR.F,hR.s⟩
theorem RibOk.prc (hR:RibOk R) {k:Nat} {p:Int} (hp:0≤p∧p≤100):RibOk (prcR R k p):=by
 refine ⟨hR.L,hR.nF,by have:=hR.nW;simpa [prcR] using this,fun w hw=>?_,hR.F,hR.s⟩
 obtain ⟨i,hi⟩:=List.mem_iff_getElem?.1 hw
 simp only [prcR,List.getElem?_modify] at hi
 cases hx:R.W[i]? with
 | none=>rw [hx] at hi;cases hi
 | some v =>
  rw [hx] at hi
  have hv:=hR.W v (List.mem_of_getElem? hx)
  have hi:=Option.some.inj hi
  split at hi
  ·subst hi;exact ⟨hv.lg,hp,hv.off,hv.fl,hv.jn⟩
  ·subst hi;exact hv
theorem low_mem {F:List Int} (hs:F.Pairwise (·<·)) {u y:Int} (hy:y ∈ F):y ∈ lowL F u ↔ y<u:=by
 unfold lowL
 induction F with
 | nil=>cases hy
 | cons z F ih =>
  rw [List.takeWhile_cons]
  have hs':=List.pairwise_cons.1 hs
  by_cases c:z<u
  ·rw [decide_eq_true c]
   simp only [if_true,List.mem_cons]
   rcases List.mem_cons.1 hy with rfl|q
   ·exact ⟨fun _=>c,fun _=>.inl rfl⟩
   ·have:=hs'.1 y q
    rw [ih hs'.2 q]
    exact ⟨fun h=>h.elim (fun e=>by omega) id,.inr⟩
  ·rw [decide_eq_false c]
   simp only [Bool.false_eq_true,if_false,List.not_mem_nil,false_iff]
   rcases List.mem_cons.1 hy with rfl|q
   ·exact c
   ·have:=hs'.1 y q;omega
theorem low_take {F:List Int} {u:Int}:lowL F u=F.take (lowL F u).length:=by
 unfold lowL
 induction F with
 | nil=>rfl
 | cons z F ih =>
  rw [List.takeWhile_cons]
  split
  ·rw [List.length_cons,List.take_succ_cons,← ih]
  ·rfl
theorem low_split {F:List Int} {u:Int}:F=lowL F u++F.drop (lowL F u).length:=by
 have h:=List.take_append_drop (lowL F u).length F
 rw [← low_take] at h;exact h.symm
theorem low_le {F:List Int} {u:Int}:(lowL F u).length≤F.length:=by
 have:=congrArg List.length (low_split (F:=F) (u:=u))
 rw [List.length_append] at this;omega
theorem low_lt {F:List Int} {u y:Int} (h:y ∈ lowL F u):y<u:=by
 unfold lowL at h
 induction F with
 | nil=>cases h
 | cons z F ih =>
  rw [List.takeWhile_cons] at h
  split at h
  ·rename_i c
   rcases List.mem_cons.1 h with rfl|h
   ·exact of_decide_eq_true c
   ·exact ih h
  ·cases h
theorem low_rest {F:List Int} (hs:F.Pairwise (·<·)) {u y:Int} (h:y ∈ F.drop (lowL F u).length):u≤y:=by
 have hy:=List.mem_of_mem_drop h
 rcases Int.lt_or_le y u with q|q
 ·exfalso
  have h1:=(low_mem hs hy).2 q
  have h2:(lowL F u++F.drop (lowL F u).length).Pairwise (·<·):=by rw [← low_split];exact hs
  have:=(List.pairwise_append.1 h2).2.2 y h1 y h
  omega
 ·exact q
theorem insL_mem {F:List Int} {u y:Int}:y ∈ insL F u ↔ y ∈ F ∨ y=u:=by
 unfold insL
 have h:y ∈ F ↔ y ∈ lowL F u ∨ y ∈ F.drop (lowL F u).length:=by
  rw [← List.mem_append,← low_split]
 rw [List.mem_append,List.mem_cons,h]
 constructor
 ·rintro (q|q|q)
  ·exact .inl (.inl q)
  ·exact .inr q
  ·exact .inl (.inr q)
 ·rintro ((q|q)|q)
  ·exact .inl q
  ·exact .inr (.inr q)
  ·exact .inr (.inl q)
theorem insL_rise {F:List Int} (hs:F.Pairwise (·<·)) {u:Int} (hu:u ∉ F):(insL F u).Pairwise (·<·):=by
 unfold insL
 have h2:(lowL F u++F.drop (lowL F u).length).Pairwise (·<·):=by rw [← low_split];exact hs
 obtain ⟨p1,p2,p3⟩:=List.pairwise_append.1 h2
 rw [List.pairwise_append,List.pairwise_cons]
 refine ⟨p1,⟨fun y hy=>?_,p2⟩,fun a ha b hb=>?_⟩
 ·have:=low_rest hs hy
  have:y ≠ u:=fun e=>hu (e ▸ List.mem_of_mem_drop hy)
  omega
 ·rcases List.mem_cons.1 hb with rfl|q
  ·exact low_lt ha
  ·exact p3 a ha b q
theorem insL_len {F:List Int} {u:Int}:(insL F u).length=F.length+1:=by
 unfold insL
 have:=low_le (F:=F) (u:=u)
 rw [List.length_append,List.length_cons,List.length_drop];omega
theorem low_at {F:List Int} (hs:F.Pairwise (·<·)) {u:Int} (hu:u ∈ F):F[(lowL F u).length]?=some u:=by
 have h:u ∈ lowL F u ∨ u ∈ F.drop (lowL F u).length:=by rw [← List.mem_append,← low_split];exact hu
 rcases h with q|q
 ·have:=low_lt q;omega
 ·obtain ⟨z,zs,hz⟩:∃ z zs,F.drop (lowL F u).length=z :: zs:=by
   cases hd:F.drop (lowL F u).length with
   | nil=>rw [hd] at q;cases q
   | cons z zs=>exact ⟨z,zs,rfl⟩
  have hzu:z=u:=by
   rw [hz] at q
   have h1:=low_rest hs (u:=u) (y:=z) (by rw [hz];simp)
   rcases List.mem_cons.1 q with e|e
   ·exact e.symm
   ·have hp:(F.drop (lowL F u).length).Pairwise (·<·):=hs.sublist (List.drop_sublist _ _)
    rw [hz] at hp
    have:=(List.pairwise_cons.1 hp).1 u e
    omega
  have:=congrArg (fun l=>l[0]?) hz
  simp only [List.getElem?_drop,Nat.add_zero,List.getElem?_cons_zero] at this
  rw [this,hzu]
theorem del_eq {F:List Int} (hs:F.Pairwise (·<·)) {u:Int} (hu:u ∈ F):F.eraseIdx (lowL F u).length=F.filter (fun y=>decide (y ≠ u)):=by
 have hlt:=(List.getElem?_eq_some_iff.1 (low_at hs hu)).1
 have hsp:=low_split (F:=F) (u:=u)
 have hd:F.drop (lowL F u).length=u :: F.drop ((lowL F u).length+1):=by
  rw [List.drop_eq_getElem_cons hlt,(List.getElem?_eq_some_iff.1 (low_at hs hu)).2]
 rw [List.eraseIdx_eq_take_drop_succ,← low_take]
 conv=>rhs;rw [hsp,hd]
 rw [List.filter_append,List.filter_cons]
 have h2:(lowL F u++u :: F.drop ((lowL F u).length+1)).Pairwise (·<·):=by rw [← hd,← hsp];exact hs
 obtain ⟨p1,p2,p3⟩:=List.pairwise_append.1 h2
 rw [List.filter_eq_self.2 (fun y hy=>by have:=low_lt hy;simp;omega)]
 simp only [ne_eq,not_true_eq_false,decide_false,Bool.false_eq_true,if_false]
 rw [List.filter_eq_self.2 (fun y hy=>by have:=(List.pairwise_cons.1 p2).1 y hy;simp;omega)]
theorem RibOk.add (hR:RibOk R) {u:Int} (hu:0≤u∧u≤R.L-1) (hn:u ∉ R.F) (hl:R.F.length<12):RibOk (addR R u):=by
 refine ⟨hR.L,?_,hR.nW,hR.W,fun y hy=>?_,insL_rise hR.s hn⟩
 ·simp only [addR,insL_len];omega
 ·rcases insL_mem.1 hy with q|q
  ·exact hR.F y q
  ·rw [q];exact hu
theorem RibOk.del (hR:RibOk R) {u:Int} (hu:u ∈ R.F):RibOk (delR R u):=by
 refine ⟨hR.L,?_,hR.nW,hR.W,fun y hy=>hR.F y (List.mem_of_mem_eraseIdx hy),?_⟩
 ·have:=List.length_eraseIdx_le R.F (lowL R.F u).length;have:=hR.nF;simp only [delR];omega
 ·simp only [delR];rw [del_eq hR.s hu];exact hR.s.filter _
def turF (R:Rib) (u:Int):List Int:=(upto R.L.toNat).filter fun y=>decide (y ∈ R.F) != decide (y=u)
theorem tur_add (hR:RibOk R) {u:Int} (hu:0≤u∧u≤R.L-1) (hn:u ∉ R.F):turF R u=insL R.F u:=by
 refine pair_ext ((upto_sorted _).filter _) (insL_rise hR.s hn) fun y=>?_
 have hL:=hR.L
 unfold turF
 rw [List.mem_filter,upto_mem,insL_mem,bne_iff_ne,ne_eq,decide_eq_decide]
 constructor
 ·rintro ⟨_,h⟩
  by_cases c:y ∈ R.F
  ·exact .inl c
  ·exact .inr (Classical.byContradiction fun q=>h ⟨fun z=>absurd z c,fun z=>absurd z q⟩)
 ·rintro (h|rfl)
  ·have:=hR.F y h
   exact ⟨by omega,fun q=>hn (q.1 h ▸ h)⟩
  ·exact ⟨by omega,fun q=>hn (q.2 rfl)⟩
theorem tur_del (hR:RibOk R) {u:Int} (hu:u ∈ R.F):turF R u=(delR R u).F:=by
 simp only [delR]
 rw [del_eq hR.s hu]
 refine pair_ext ((upto_sorted _).filter _) (hR.s.filter _) fun y=>?_
 have hL:=hR.L
 unfold turF
 rw [List.mem_filter,upto_mem,List.mem_filter,bne_iff_ne,ne_eq,decide_eq_decide,decide_eq_true_eq]
 constructor
 ·rintro ⟨_,h⟩
  by_cases c:y ∈ R.F
  ·exact ⟨c,fun e=>h ⟨fun _=>e,fun _=>c⟩⟩
  ·exact absurd ⟨fun z=>absurd z c,fun z=>absurd (z ▸ hu) c⟩ h
 ·rintro ⟨h,h2⟩
  have:=hR.F y h
  exact ⟨by omega,fun q=>h2 (q.1 h)⟩
end
end Go.AM
namespace Go.AM
open Go.Proofs.Tryz
def encW:Enc Wnt:=⟨5,fun w=>[.int .i64 w.lg,.int .i64 w.pr,.int .i64 w.off,.int .i64 w.fl,.int .i64 w.jn],fun _=>rfl,by decide⟩
theorem encW_sc:∀ y,(encW.cells y).all AVal.scalar=true:=fun _=>rfl
def encC:Enc Ct:=⟨3,fun c=>[.int .i64 c.w,.int .i64 c.f,.bool c.j],fun _=>rfl,by decide⟩
theorem encC_sc:∀ y,(encC.cells y).all AVal.scalar=true:=fun _=>rfl
def encS:Enc (Int × Int):=⟨2,fun s=>[.int .i64 s.1,.int .i64 s.2],fun _=>rfl,by decide⟩
theorem encS_sc:∀ y,(encS.cells y).all AVal.scalar=true:=fun _=>rfl
def RibAt (h:Heap) (v:AVal) (R:Rib):Prop:=∃ fv wv,v=.agg [.int .i64 R.L,fv,wv]∧Ints h fv R.F∧Rows encW h wv R.W
theorem RibAt.ext {h H:Heap} {v:AVal} {R:Rib} (x:RibAt h v R) (e:Ext h H):RibAt H v R:=by
 obtain ⟨fv,wv,rfl,h1,h2⟩:=x
 exact ⟨fv,wv,rfl,h1.ext e,h2.ext e⟩
abbrev ribB (L:Int) (fv wv:AVal):ABlk:=⟨.cells [.int .i64 L,fv,wv] 35 false false,0⟩
def blB (F:List Int):List AVal:=(List.range 60).map fun u:Nat=>AVal.bool (decide ((u:Int) ∈ F))
theorem blB_len {F:List Int}:(blB F).length=60:=by simp [blB]
theorem blB_at {F:List Int} {u:Nat} (hu:u<60):(blB F)[u]?=some (.bool (decide ((u:Int) ∈ F))):=by
 unfold blB
 rw [List.getElem?_map,List.getElem?_range hu];rfl
theorem blB_set {F:List Int} {u:Nat} (hu:u<60):(blB F).set u (.bool true)=blB (F++[(u:Int)]):=by
 refine List.ext_getElem? fun i=>?_
 rw [List.getElem?_set,blB_len]
 by_cases hi:i<60
 ·rw [blB_at hi,blB_at hi]
  by_cases e:u=i
  ·subst e;rw [if_pos rfl,if_pos hu];simp
  ·rw [if_neg e]
   congr 2
   refine decide_eq_decide.2 ⟨fun q=>List.mem_append.2 (.inl q),fun q=>?_⟩
   rcases List.mem_append.1 q with q|q
   ·exact q
   ·simp at q;omega
 ·rw [List.getElem?_eq_none (by rw [blB_len];omega),List.getElem?_eq_none (by rw [blB_len];omega)]
  split
  ·omega
  ·rfl
def dskB (L:Int) (fv wv:AVal) (F:List Int):ABlk:=⟨.cells (.int .i64 L :: fv :: wv :: blB F) 169 false false,0⟩
def DskAt (h:Heap) (id:Nat) (R:Rib):Prop:=∃ fv wv,h[id]?=some (dskB R.L fv wv R.F)∧Ints h fv R.F∧Rows encW h wv R.W
theorem DskAt.ext {h H:Heap} {id:Nat} {R:Rib} (x:DskAt h id R) (e:Ext h H):DskAt H id R:=by
 obtain ⟨fv,wv,h0,h1,h2⟩:=x
 exact ⟨fv,wv,e.get h0,h1.ext e,h2.ext e⟩
theorem dsk_ld0 {L:Int} {fv wv:AVal} {F:List Int} {z:Nat}:ldB (some (false,z)) (some (dskB L fv wv F)) 0 0=some (.int .i64 L):=by
 unfold dskB;rw [ldB_cell];rfl
theorem dsk_ld2 {L:Int} {fv wv:AVal} {F:List Int} {z:Nat}:ldB (some (false,z)) (some (dskB L fv wv F)) 0 2=some wv:=by
 unfold dskB;rw [ldB_cell];rfl
theorem dsk_ldu {L:Int} {fv wv:AVal} {F:List Int} {z u:Nat} (hu:u<60):ldB (some (false,z)) (some (dskB L fv wv F)) 0 (3+u)=some (.bool (decide ((u:Int) ∈ F))):=by
 unfold dskB;rw [ldB_cell,show 3+u=u+1+1+1 by omega,List.getElem?_cons_succ,List.getElem?_cons_succ,List.getElem?_cons_succ,blB_at hu]
theorem dsk_st {L:Int} {fv wv:AVal} {F:List Int} {base d u:Nat} {K:ABlk→Heap} (hb:base≤d) (hu:u<60):stQ base d (some (dskB L fv wv F)) 0 (3+u) [.bool true] K=some (K (dskB L fv wv (F++[(u:Int)]))):=by
 unfold dskB
 rw [stQ_own hb (by simp [blB_len];omega) rfl]
 congr 2
 simp only [splice]
 rw [show 3+u=u+1+1+1 by omega,List.set_cons_succ,List.set_cons_succ,List.set_cons_succ,blB_set hu]
theorem wnt_ad {h:Heap} {wv:AVal} {W:List Wnt} {i:Nat} (hR:Rows encW h wv W) (hi:i<W.length):indexAddrA prog 33 wv (.int .i64 (i:Int))=some (elAdr wv encW.z i 0):=by
 have:=hR.addr (P:=prog) (i:=(i:Int)) Fc.el33 Fc.ar33 (by omega) (by omega)
 rwa [Int.toNat_natCast] at this
theorem wnt_ld {h:Heap} {wv:AVal} {W:List Wnt} {i:Nat} {w:Wnt} (hR:Rows encW h wv W) (hx:W[i]?=some w):loadP prog h 50 (elAdr wv encW.z i 0)=some (.agg [.int .i64 w.lg,.int .i64 w.pr,.int .i64 w.off,.int .i64 w.fl,.int .i64 w.jn]):=hR.load (P:=prog) Fc.ty50 hx
theorem wnt_f0 {h:Heap} {wv:AVal} {W:List Wnt} {i:Nat} (hR:Rows encW h wv W) (hi:i<W.length):fieldAddrA prog 50 (elAdr wv encW.z i 0) 0=some (elAdr wv encW.z i 0):=elAdr_field (P:=prog) (i:=i) (o:=0) (off:=0) (q:=false) (n:=1) hR hi (by kernel_rfl) (by decide)
theorem wnt_l0 {h:Heap} {wv:AVal} {W:List Wnt} {i:Nat} {w:Wnt} (hR:Rows encW h wv W) (hx:W[i]?=some w):loadP prog h 3 (elAdr wv encW.z i 0)=some (.int .i64 w.lg):=hR.cell (P:=prog) Fc.ty3 hx (o:=0) (a:=.int .i64 w.lg) rfl
end Go.AM
namespace Go.AM
open Go.Proofs.Tryz
def ixI (l:List Int) (x:Int):Int:=if x ∈ l then (l.idxOf x:Nat) else -1
theorem ixI_ge {l:List Int} {x:Int}:(ixI l x ≥ 0)=(x ∈ l):=by
 unfold ixI
 by_cases h:x ∈ l
 ·rw [if_pos h];exact propext ⟨fun _=>h,fun _=>by omega⟩
 ·rw [if_neg h];exact propext ⟨fun q=>by omega,fun q=>absurd q h⟩
theorem ixI_at:∀ {l:List Int} {x:Int} {n:Nat},n<l.length→l.getD n 0=x→(∀ j,j<n→l.getD j 0 ≠ x)→ixI l x=(n:Int):=by
 intro l x n hn he hj
 have hm:x ∈ l:=by
  rw [← he,List.getD_eq_getElem?_getD,List.getElem?_eq_getElem hn]
  exact List.getElem_mem hn
 rw [ixI,if_pos hm]
 have h2:=List.getElem_idxOf (List.idxOf_lt_length_of_mem hm)
 have h3:=List.idxOf_lt_length_of_mem hm
 have g:∀ k,(hk:k<l.length)→l.getD k 0=l[k]:=fun k hk=>by rw [List.getD_eq_getElem?_getD,List.getElem?_eq_getElem hk];rfl
 have a1:¬ l.idxOf x<n:=fun q=>hj _ q (by rw [g _ h3];exact h2)
 have a2:¬ n<l.idxOf x:=fun q=>by
  have:=List.not_of_lt_findIdx (p:=(· == x)) (xs:=l) (i:=n) q
  rw [g _ hn] at he
  simp [he] at this
 omega
theorem ixI_no {l:List Int} {x:Int} (hj:∀ j,j<l.length→l.getD j 0 ≠ x):ixI l x=-1:=by
 refine if_neg fun q=>?_
 obtain ⟨i,hi,e⟩:=List.getElem_of_mem q
 exact hj i hi (by rw [List.getD_eq_getElem?_getD,List.getElem?_eq_getElem hi];exact e)
theorem run_index {base:Nat} {h:Heap} {a:AVal} {l:List Int} {x:Int} (ha:Ints h a l):callL prog raw base (.fn 112 [] []) [a,.int .i64 x] h=some (.int .i64 (ixI l x),h):=by
 have hl:=ha.1.1
 refine callL_run func112 rfl rfl ?_
 have hsp:=@Nat.succ_ne_zero;repeat' (first|simp (disch:=first|exact dq|fail) only [go_sem,hsp]|refine WP_drw ?_|refine cnd_intro (fun hsp=>?_) fun hsp=>?_)
 refine WP_loop (fun σ=>∃ n:Nat,σ.fr 8=.int .i64 (n:Int)∧σ.fr 0=a∧σ.fr 1=.int .i64 x∧σ.fr 7=.int .i64 (l.length:Int)∧σ.h=h∧n≤l.length∧(∀ j,j<n→l.getD j 0 ≠ x)) (fun σ=>match σ.fr 8 with|.int _ x=>(((l.length:Nat):Int)-x).toNat|_=>0) ?_ ?_
 ·refine ⟨0,?_,?_,?_,?_,?_,by omega,?_⟩
  iterate 5 focus (first|rfl|(simp (disch:=first|exact dq|fail) only [go_sem,Int.natCast_zero];first|done|rfl))
  intro j hj;omega
 ·rintro ⟨fr,hp⟩ ⟨n,r8,r0,r1,r7,rh,hi,hP⟩
  dsimp only at r8 r0 r1 r7 rh hi hP
  subst rh
  by_cases hn:n<l.length
  ·have hlt:((n:Int)<(l.length:Int))=True:=eq_true (by omega)
   by_cases he:x=l.getD n 0
   ·have t2:(x=l.getD n 0)=True:=eq_true he
    have hsp:=@Nat.succ_ne_zero;repeat' (first|simp (disch:=first|exact dq|fail) only [go_sem,hsp,r8,r0,r1,r7,hlt,t2]|refine WP_drw ?_|refine cnd_intro (fun hsp=>?_) fun hsp=>?_)
    exact fI (ixI_at hn he.symm hP).symm
   ·have t2:(x=l.getD n 0)=False:=eq_false he
    have hsp:=@Nat.succ_ne_zero;repeat' (first|simp (disch:=first|exact dq|fail) only [go_sem,hsp,r8,r0,r1,r7,hlt,t2]|refine WP_drw ?_|refine cnd_intro (fun hsp=>?_) fun hsp=>?_)
    refine ⟨⟨n+1,by simp,by omega,fun j hj=>?_⟩,by omega⟩
    by_cases e:j=n
    ·subst e;exact fun q=>he q.symm
    ·exact hP j (by omega)
  ·have hlt:((n:Int)<(l.length:Int))=False:=eq_false (by omega)
   have hsp:=@Nat.succ_ne_zero;repeat' (first|simp (disch:=first|exact dq|fail) only [go_sem,hsp,r8,r0,r1,r7,hlt]|refine WP_drw ?_|refine cnd_intro (fun hsp=>?_) fun hsp=>?_)
   exact fI (ixI_no fun j hj=>hP j (by omega)).symm
theorem run_contains {base:Nat} {h:Heap} {a:AVal} {l:List Int} {x:Int} (ha:Ints h a l):callL prog raw base (.fn 41 [] []) [a,.int .i64 x] h=some (.bool (decide (x ∈ l)),h):=by
 have e:=fun base=>@run_index base h a l x ha
 have e2:=@ixI_ge l x
 refine callL_run func41 rfl rfl ?_
 have hsp:=@Nat.succ_ne_zero;repeat' (first|simp (disch:=first|exact dq|fail) only [go_sem,hsp,e,e2]|refine WP_drw ?_|refine cnd_intro (fun hsp=>?_) fun hsp=>?_)
 exact fB rfl
end Go.AM
namespace Go.AM
open Go.Proofs.Tryz
theorem idxF_W {base:Nat} {h:Heap} {v g:AVal} {l:List (Wnt)} (p:Wnt→Bool) (hR:Rows encW h v l) (hg:∀ base x,x ∈ l→callL prog raw base g [.agg (encW.cells x)] h=some (.bool (p x),h)) :
  callL prog raw base (.fn 154 [] []) [v,g] h=some (.int .i64 (idx p l),h):=by
 have hb:l.length<2 ^ 60:=hR.1
 refine callL_run func154 rfl rfl ?_
 have hsp:=@Nat.succ_ne_zero;repeat' (first|simp (disch:=first|exact dq|fail) only [go_sem,hsp,hR.len Fc.el33]|refine WP_drw ?_|refine cnd_intro (fun hsp=>?_) fun hsp=>?_)
 refine WP_loop (fun σ=>∃ n:Nat,σ.fr 8=.int .i64 (n:Int)∧σ.fr 0=v∧σ.fr 1=g∧σ.fr 7=.int .i64 (l.length:Int)∧σ.h=h∧n≤l.length∧(∀ x ∈ l.take n,p x=false)) (fun σ=>match σ.fr 8 with|.int _ x=>(((l.length:Nat):Int)-x).toNat|_=>0) ?_ ?_
 ·refine ⟨0,?_,?_,?_,?_,?_,by omega,?_⟩
  iterate 5 focus (first|rfl|(simp (disch:=first|exact dq|fail) only [go_sem,Int.natCast_zero];first|done|rfl))
  intro x hx;simp at hx
 ·rintro ⟨fr,hp⟩ ⟨n,r8,r0,r1,r7,rh,hi,hP⟩
  dsimp only at r8 r0 r1 r7 rh hi hP
  subst rh
  by_cases hn:n<l.length
  ·have hlt:((n:Int)<(l.length:Int))=True:=eq_true (by omega)
   have hx:l[n]?=some l[n]:=List.getElem?_eq_getElem hn
   have had:=hR.addr (i:=(n:Int)) Fc.el33 Fc.ar33 (by omega) (by omega)
   rw [Int.toNat_natCast] at had
   have hld:=hR.load Fc.ty50 hx
   have hc:=fun base=>hg base l[n] (List.getElem_mem hn)
   cases hp:p l[n] with
   | true =>
    rw [hp] at hc
    have hsp:=@Nat.succ_ne_zero;repeat' (first|simp (disch:=first|exact dq|fail) only [go_sem,hsp,r8,r0,r1,r7,hlt,had,hld,hc]|refine WP_drw ?_|refine cnd_intro (fun hsp=>?_) fun hsp=>?_)
    rw [idx_hit p hn hP hp]
    all_goals (first|refine fI ?_|refine fB ?_|refine fII ?_ ?_|refine fBI ?_ ?_|refine fIII ?_ ?_ ?_|refine fIIB ?_ ?_ ?_|skip);all_goals (try dsimp only);all_goals (try with_reducible rfl);all_goals (try omega)
   | false =>
    rw [hp] at hc
    have hsp:=@Nat.succ_ne_zero;repeat' (first|simp (disch:=first|exact dq|fail) only [go_sem,hsp,r8,r0,r1,r7,hlt,had,hld,hc]|refine WP_drw ?_|refine cnd_intro (fun hsp=>?_) fun hsp=>?_)
    exact ⟨⟨n+1,by simp,by omega,take_next p hn hP hp⟩,by omega⟩
  ·have hlt:((n:Int)<(l.length:Int))=False:=eq_false (by omega)
   obtain rfl:n=l.length:=by omega
   have hsp:=@Nat.succ_ne_zero;repeat' (first|simp (disch:=first|exact dq|fail) only [go_sem,hsp,r8,r0,r1,r7,hlt]|refine WP_drw ?_|refine cnd_intro (fun hsp=>?_) fun hsp=>?_)
   rw [idx_miss p hP]
   all_goals (first|refine fI ?_|refine fB ?_|refine fII ?_ ?_|refine fBI ?_ ?_|refine fIII ?_ ?_ ?_|refine fIIB ?_ ?_ ?_|skip);all_goals (try dsimp only);all_goals (try with_reducible rfl);all_goals (try omega)
theorem anyF_W {base:Nat} {h:Heap} {v g:AVal} {l:List (Wnt)} (p:Wnt→Bool) (hR:Rows encW h v l) (hg:∀ base x,x ∈ l→callL prog raw base g [.agg (encW.cells x)] h=some (.bool (p x),h)) :
  callL prog raw base (.fn 136 [] []) [v,g] h=some (.bool (l.any p),h):=by
 have hi:=fun base=>idxF_W (base:=base) p hR hg
 have h0:=idx_any p l
 refine callL_run func136 rfl rfl ?_
 have hsp:=@Nat.succ_ne_zero;repeat' (first|simp (disch:=first|exact dq|fail) only [go_sem,hsp,hi]|refine WP_drw ?_|refine cnd_intro (fun hsp=>?_) fun hsp=>?_)
 refine fB ?_
 by_cases h1:l.any p=true
 ·rw [h1];simpa using h0.2 h1
 ·have h2:¬ 0≤idx p l:=fun h=>h1 (h0.1 h)
  simp only [Bool.not_eq_true] at h1
  rw [h1];simpa using h2
theorem not_W {base id:Nat} {h:Heap} {g:AVal} {x:Wnt} {b:Bool} (hid:h[id]?=some ⟨.cells [g] 153 false false,0⟩) (hg:∀ base T,callL prog raw base g [.agg (encW.cells x)] (h++T)=some (.bool b,h++T)) :
  callL prog raw base (.fn 137 [] [.ptr (some ⟨id,0,0⟩)]) [.agg (encW.cells x)] h=some (.bool (!b),h):=by
 have hgi:=lt_of_get hid
 simp only [encW] at hg ⊢
 refine callL_run func137 rfl rfl ?_
 have hsp:=@Nat.succ_ne_zero;repeat' (first|simp (disch:=first|exact dq|fail) only [go_sem,hsp,hid,hg]|refine WP_drw ?_|refine cnd_intro (fun hsp=>?_) fun hsp=>?_)
 exact fB rfl
theorem every_W {base:Nat} {h:Heap} {v g:AVal} {l:List (Wnt)} (p:Wnt→Bool) (hR:Rows encW h v l) (hg:∀ base T x,x ∈ l→callL prog raw base g [.agg (encW.cells x)] (h++T)=some (.bool (p x),h++T)) (h1:One g) :
  callL prog raw base (.fn 81 [] []) [v,g] h=some (.bool (l.all p),h):=by
 have hc:=fun base=>anyF_W (base:=base) (fun x=>!p x) hR.app (fun base x hx=>not_W (x:=x) (get_eq rfl) (fun base T=>by have:=hg base ([⟨.cells [g] 153 false false,0⟩]++T) x hx;rwa [← List.append_assoc] at this))
 refine callL_run func81 rfl rfl ?_
 have hsp:=@Nat.succ_ne_zero;repeat' (first|simp (disch:=first|exact dq|fail) only [go_sem,hsp,hc]|refine WP_drw ?_|refine cnd_intro (fun hsp=>?_) fun hsp=>?_)
 refine fB ?_
 rw [List.any_eq_not_all_not]
 simp
theorem idxF_I {base:Nat} {h:Heap} {v g:AVal} {l:List (Int)} (p:Int→Bool) (hR:Ints h v l) (hg:∀ base x,x ∈ l→callL prog raw base g [.int .i64 x] h=some (.bool (p x),h)) :
  callL prog raw base (.fn 42 [] []) [v,g] h=some (.int .i64 (idx p l),h):=by
 have hb:l.length<2 ^ 60:=hR.1.1
 refine callL_run func42 rfl rfl ?_
 have hsp:=@Nat.succ_ne_zero;repeat' (first|simp (disch:=first|exact dq|fail) only [go_sem,hsp,lenI hR]|refine WP_drw ?_|refine cnd_intro (fun hsp=>?_) fun hsp=>?_)
 refine WP_loop (fun σ=>∃ n:Nat,σ.fr 8=.int .i64 (n:Int)∧σ.fr 0=v∧σ.fr 1=g∧σ.fr 7=.int .i64 (l.length:Int)∧σ.h=h∧n≤l.length∧(∀ x ∈ l.take n,p x=false)) (fun σ=>match σ.fr 8 with|.int _ x=>(((l.length:Nat):Int)-x).toNat|_=>0) ?_ ?_
 ·refine ⟨0,?_,?_,?_,?_,?_,by omega,?_⟩
  iterate 5 focus (first|rfl|(simp (disch:=first|exact dq|fail) only [go_sem,Int.natCast_zero];first|done|rfl))
  intro x hx;simp at hx
 ·rintro ⟨fr,hp⟩ ⟨n,r8,r0,r1,r7,rh,hi,hP⟩
  dsimp only at r8 r0 r1 r7 rh hi hP
  subst rh
  by_cases hn:n<l.length
  ·have hlt:((n:Int)<(l.length:Int))=True:=eq_true (by omega)
   have hx:l[n]?=some l[n]:=List.getElem?_eq_getElem hn
   have had:=adrI (i:=(n:Int)) (by omega) hR (by omega)
   rw [Int.toNat_natCast] at had
   have hld:=loadI hR hn
   rw [getD_at hn] at hld
   have hc:=fun base=>hg base l[n] (List.getElem_mem hn)
   cases hp:p l[n] with
   | true =>
    rw [hp] at hc
    have hsp:=@Nat.succ_ne_zero;repeat' (first|simp (disch:=first|exact dq|fail) only [go_sem,hsp,r8,r0,r1,r7,hlt,had,hld,hc]|refine WP_drw ?_|refine cnd_intro (fun hsp=>?_) fun hsp=>?_)
    rw [idx_hit p hn hP hp]
    all_goals (first|refine fI ?_|refine fB ?_|refine fII ?_ ?_|refine fBI ?_ ?_|refine fIII ?_ ?_ ?_|refine fIIB ?_ ?_ ?_|skip);all_goals (try dsimp only);all_goals (try with_reducible rfl);all_goals (try omega)
   | false =>
    rw [hp] at hc
    have hsp:=@Nat.succ_ne_zero;repeat' (first|simp (disch:=first|exact dq|fail) only [go_sem,hsp,r8,r0,r1,r7,hlt,had,hld,hc]|refine WP_drw ?_|refine cnd_intro (fun hsp=>?_) fun hsp=>?_)
    exact ⟨⟨n+1,by simp,by omega,take_next p hn hP hp⟩,by omega⟩
  ·have hlt:((n:Int)<(l.length:Int))=False:=eq_false (by omega)
   obtain rfl:n=l.length:=by omega
   have hsp:=@Nat.succ_ne_zero;repeat' (first|simp (disch:=first|exact dq|fail) only [go_sem,hsp,r8,r0,r1,r7,hlt]|refine WP_drw ?_|refine cnd_intro (fun hsp=>?_) fun hsp=>?_)
   rw [idx_miss p hP]
   all_goals (first|refine fI ?_|refine fB ?_|refine fII ?_ ?_|refine fBI ?_ ?_|refine fIII ?_ ?_ ?_|refine fIIB ?_ ?_ ?_|skip);all_goals (try dsimp only);all_goals (try with_reducible rfl);all_goals (try omega)
theorem anyF_I {base:Nat} {h:Heap} {v g:AVal} {l:List (Int)} (p:Int→Bool) (hR:Ints h v l) (hg:∀ base x,x ∈ l→callL prog raw base g [.int .i64 x] h=some (.bool (p x),h)) :
  callL prog raw base (.fn 14 [] []) [v,g] h=some (.bool (l.any p),h):=by
 have hi:=fun base=>idxF_I (base:=base) p hR hg
 have h0:=idx_any p l
 refine callL_run func14 rfl rfl ?_
 have hsp:=@Nat.succ_ne_zero;repeat' (first|simp (disch:=first|exact dq|fail) only [go_sem,hsp,hi]|refine WP_drw ?_|refine cnd_intro (fun hsp=>?_) fun hsp=>?_)
 refine fB ?_
 by_cases h1:l.any p=true
 ·rw [h1];simpa using h0.2 h1
 ·have h2:¬ 0≤idx p l:=fun h=>h1 (h0.1 h)
  simp only [Bool.not_eq_true] at h1
  rw [h1];simpa using h2
theorem not_I {base id:Nat} {h:Heap} {g:AVal} {x:Int} {b:Bool} (hid:h[id]?=some ⟨.cells [g] 61 false false,0⟩) (hg:∀ base T,callL prog raw base g [.int .i64 x] (h++T)=some (.bool b,h++T)) :
  callL prog raw base (.fn 138 [] [.ptr (some ⟨id,0,0⟩)]) [.int .i64 x] h=some (.bool (!b),h):=by
 have hgi:=lt_of_get hid
 have hg0:=fun base=>hg base []
 simp only [List.append_nil] at hg0
 refine callL_run func138 rfl rfl ?_
 have hsp:=@Nat.succ_ne_zero;repeat' (first|simp (disch:=first|exact dq|fail) only [go_sem,hsp,hid,hg0]|refine WP_drw ?_|refine cnd_intro (fun hsp=>?_) fun hsp=>?_)
 exact fB rfl
theorem every_I {base:Nat} {h:Heap} {v g:AVal} {l:List (Int)} (p:Int→Bool) (hR:Ints h v l) (hg:∀ base T x,x ∈ l→callL prog raw base g [.int .i64 x] (h++T)=some (.bool (p x),h++T)) (h1:One g) :
  callL prog raw base (.fn 83 [] []) [v,g] h=some (.bool (l.all p),h):=by
 have hc:=fun base=>anyF_I (base:=base) (fun x=>!p x) hR.app (fun base x hx=>not_I (x:=x) (get_eq rfl) (fun base T=>by have:=hg base ([⟨.cells [g] 61 false false,0⟩]++T) x hx;rwa [← List.append_assoc] at this))
 refine callL_run func83 rfl rfl ?_
 have hsp:=@Nat.succ_ne_zero;repeat' (first|simp (disch:=first|exact dq|fail) only [go_sem,hsp,hc]|refine WP_drw ?_|refine cnd_intro (fun hsp=>?_) fun hsp=>?_)
 refine fB ?_
 rw [List.any_eq_not_all_not]
 simp
end Go.AM
namespace Go.AM
open Go.Proofs.Tryz
def sortB (l:List Int):Bool:=decide (∀ i,i<l.length→0<i→l.getD (i-1) 0≤l.getD i 0)
theorem run_sorted {base:Nat} {h:Heap} {v:AVal} {l:List Int} (hI:Ints h v l):callL prog raw base (.fn 84 [] []) [v] h=some (.bool (sortB l),h):=by
 have hl:=hI.1.1
 refine callL_run func84 rfl rfl ?_
 have hsp:=@Nat.succ_ne_zero;repeat' (first|simp (disch:=first|exact dq|fail) only [go_sem,hsp]|refine WP_drw ?_|refine cnd_intro (fun hsp=>?_) fun hsp=>?_)
 refine WP_loop (fun σ=>∃ c:Int,σ.fr 3=.int .i64 c∧σ.fr 0=v∧σ.h=h∧-1≤c∧c<l.length∧∀ i:Nat,c<i→i<l.length→l.getD (i-1) 0≤l.getD i 0) (fun σ=>match σ.fr 3 with|.int _ x=>(x+1).toNat|_=>0) ?_ ?_
 ·refine ⟨(l.length:Int)-1,?_,?_,rfl,by omega,by omega,fun i h1 h2=>by omega⟩
  ·simp (disch:=first|exact dq|fail) only [go_sem]
  ·simp (disch:=first|exact dq|fail) only [go_sem]
 ·rintro ⟨fr,hp⟩ ⟨c,r3,r0,rh,hc1,hc2,hP⟩
  dsimp only at r3 r0 rh
  subst rh
  by_cases hc:c > 0
  ·have hlt:(c > 0)=True:=eq_true hc
   obtain ⟨n,rfl⟩:=Int.eq_ofNat_of_zero_le (show 0≤c by omega)
   have e1:((n:Int)-1).toNat=n-1:=by omega
   by_cases hs:l.getD n 0<l.getD (n-1) 0
   ·have t2:(l.getD n 0<l.getD (n-1) 0)=True:=eq_true hs
    have hsp:=@Nat.succ_ne_zero;repeat' (first|simp (disch:=first|exact dq|fail) only [go_sem,hsp,r3,r0,hlt,e1,t2]|refine WP_drw ?_|refine cnd_intro (fun hsp=>?_) fun hsp=>?_)
    refine fB (decide_eq_false fun hh=>?_).symm
    have:=hh n (by omega) (by omega)
    omega
   ·have t2:(l.getD n 0<l.getD (n-1) 0)=False:=eq_false hs
    have hsp:=@Nat.succ_ne_zero;repeat' (first|simp (disch:=first|exact dq|fail) only [go_sem,hsp,r3,r0,hlt,e1,t2]|refine WP_drw ?_|refine cnd_intro (fun hsp=>?_) fun hsp=>?_)
    refine ⟨⟨(n:Int)-1,rfl,by omega,by omega,fun i h1 h2=>?_⟩,by omega⟩
    by_cases e:i=n
    ·subst e;omega
    ·exact hP i (by omega) h2
  ·have hlt:(c > 0)=False:=eq_false hc
   have hsp:=@Nat.succ_ne_zero;repeat' (first|simp (disch:=first|exact dq|fail) only [go_sem,hsp,r3,r0,hlt]|refine WP_drw ?_|refine cnd_intro (fun hsp=>?_) fun hsp=>?_)
   exact fB (decide_eq_true fun i h1 h2=>hP i (by omega) h1).symm
attribute [go_sem] run_sorted
end Go.AM
namespace Go.AM
open Go.Proofs.Tryz
theorem splice_ints:∀ (z:List Int) (m:List Int) (o:Nat),∃ m',splice (ints m) o (ints z)=ints m'∧m'.length=m.length
 | [],m,o=>⟨m,rfl,rfl⟩
 | x :: z,m,o=>by
  obtain ⟨m',h1,h2⟩:=splice_ints z (m.set o x) (o+1)
  refine ⟨m',?_,by rw [h2,List.length_set]⟩
  show splice ((ints m).set o (.int .i64 x)) (o+1) (ints z)=ints m'
  rw [ints_set];exact h1
theorem clr_part {base id o n k:Nat} {H:Heap} {m:List Int} (hg:H[id]?=some (rowB m 0)) (hn:0<n) (ho:o+n≤m.length):∃ m':List Int,m'.length=m.length∧clearA prog base H 32 (.slice (some ⟨id,0,o⟩) n k)=some (.tuple [],H.set id (rowB m' 0)):=by
 have hrep:∀ j,repCells [AVal.int .i64 0] j=ints (lst (fun _=>0) j):=fun j=>by
  induction j with
  | zero=>rfl
  | succ j ih =>
   rw [repCells,ih]
   simp [ints,lst,List.range_succ_eq_map,List.map_map]
 obtain ⟨m',h1,h2⟩:=splice_ints (lst (fun _=>0) n) m o
 refine ⟨m',h2,?_⟩
 cases n with
 | zero=>omega
 | succ n =>
  simp only [clearA,Fc.el32,hrep,store_eq,hg,rowB,stQ]
  rw [if_pos ⟨trivial,by rw [ints_length,ints_length,lst_len];exact ho,ints_scalar _,.inr (ints_bare _)⟩,h1]
theorem sl_from {id ver o n k:Nat} {lo:Int} (h0:0≤lo) (h1:lo≤n) (h2:n≤k):sliceA prog 32 (.slice (some ⟨id,ver,o⟩) n k) (some (.int .i64 lo)) none none=some (.slice (some ⟨id,ver,o+lo.toNat⟩) (n-lo.toNat) (k-lo.toNat)):=by
 have e1:lo≤(n:Int):=h1
 simp [sliceA,Fc.ar32,Fc.el32,optB,boundA,ARef.add,h0,e1]
theorem sl_to {id ver o n k:Nat} {hi:Int} (h0:0≤hi) (h1:hi≤k):sliceA prog 32 (.slice (some ⟨id,ver,o⟩) n k) none (some (.int .i64 hi)) none=some (.slice (some ⟨id,ver,o⟩) hi.toNat k):=by
 have e1:hi≤(k:Int):=h1
 simp [sliceA,Fc.ar32,Fc.el32,optB,boundA,ARef.add,h0,e1]
def nodup (l:List Int):Prop:=∀ i,i<l.length→0<i→l.getD i 0 ≠ l.getD (i-1) 0
theorem run_compact {base id:Nat} {h:Heap} {l:List Int} (hg:h[id]?=some (rowB l 0)) (hs:Small l) :
  Ret prog raw base (.fn 85 [] []) [.slice (some ⟨id,0,0⟩) l.length l.length] h (fun v H=>∃ (k:Nat) (m:List Int),v=.slice (some ⟨id,0,0⟩) k l.length∧H=h.set id (rowB m 0)∧m.length=l.length∧k≤l.length∧(k=l.length ↔ nodup l)):=by
 have hid:=lt_of_get hg
 have hl:l.length<1073741824:=hs.1
 have hself:h=h.set id (rowB l 0):=(set_id hg).symm
 refine ret_raw func85 rfl (by kernel_rfl) ?_
 by_cases h2:l.length<2
 ·have t1:((l.length:Int)<2)=True:=eq_true (by omega)
  have hsp:=@Nat.succ_ne_zero;repeat' (first|simp (disch:=first|exact dq|fail) only [go_sem,hsp,t1,Fc.ln32]|refine WP_drw ?_|refine cnd_intro (fun hsp=>?_) fun hsp=>?_)
  exact ⟨l.length,l,rfl,hself,rfl,Nat.le_refl _,⟨fun _ i h1 h2=>by omega,fun _=>rfl⟩⟩
 ·have t1:((l.length:Int)<2)=False:=eq_false (by omega)
  have hsp:=@Nat.succ_ne_zero;repeat' (first|simp (disch:=first|exact dq|fail) only [go_sem,hsp,t1,Fc.ln32]|refine WP_drw ?_|refine cnd_intro (fun hsp=>?_) fun hsp=>?_)
  refine WP_loop (fun σ=>∃ i:Nat,σ.fr 3=.int .i64 (i:Int)∧σ.fr 0=.slice (some ⟨id,0,0⟩) l.length l.length∧σ.h=h∧i≤l.length∧(1≤i∧∀ j,j<i→0<j→l.getD j 0 ≠ l.getD (j-1) 0)) (fun σ=>match σ.fr 3 with|.int _ x=>(((l.length:Nat):Int)-x).toNat|_=>0) ?_ ?_
  ·refine ⟨1,?_,?_,?_,by omega,?_⟩
   iterate 3 focus (first|rfl|(simp (disch:=first|exact dq|fail) only [go_sem,Int.natCast_zero];first|done|rfl))
   exact ⟨Nat.le_refl _,fun j h1 h2=>by omega⟩
  ·rintro ⟨fr,hp⟩ ⟨i,r3,r0,rh,hi,hP⟩
   dsimp only at r3 r0 rh hi hP
   subst rh
   obtain ⟨hi1,hP⟩:=hP
   by_cases hn:i<l.length
   ·have hlt:((i:Int)<(l.length:Int))=True:=eq_true (by omega)
    have e1:((i:Int)-1).toNat=i-1:=by omega
    by_cases he:l.getD i 0=l.getD (i-1) 0
    ·have t2:(l.getD i 0=l.getD (i-1) 0)=True:=eq_true he
     have hsp:=@Nat.succ_ne_zero;repeat' (first|simp (disch:=first|exact dq|fail) only [go_sem,hsp,r3,r0,hlt,t2,e1,hg,sl_from,Fc.ln32,Fc.as32]|refine WP_drw ?_|refine cnd_intro (fun hsp=>?_) fun hsp=>?_)
     refine WP_loop (fun σ=>∃ (k2 k:Nat) (m:List Int),σ.fr 5=.int .i64 (k2:Int)∧σ.fr 3=.int .i64 (k:Int)∧σ.fr 0=.slice (some ⟨id,0,0⟩) l.length l.length∧σ.fr 4=.slice (some ⟨id,0,i⟩) (l.length-i) (l.length-i)∧σ.h=hp.set id (rowB m 0)∧m.length=l.length∧(1≤k2∧k2≤l.length-i)∧(i≤k∧k+1≤i+k2)) (fun σ=>match σ.fr 5 with|.int _ x=>(((l.length-i:Nat):Int)-x).toNat|_=>0) ?_ ?_
     ·refine ⟨1,i,l,?_,?_,?_,?_,hself,rfl,by omega,by omega⟩
      ·simp (disch:=first|exact dq|fail) only [go_sem]
      ·simp (disch:=first|exact dq|fail) only [go_sem,r3,r0]
      ·simp (disch:=first|exact dq|fail) only [go_sem,r3,r0]
      ·simp (disch:=first|exact dq|fail) only [go_sem,r3,r0]
     ·rintro ⟨fr2,hp2⟩ ⟨k2,k,m,q5,q3,q0,q4,rh2,hm,hk2,hk⟩
      dsimp only at q5 q3 q0 q4 rh2
      subst rh2
      have hgm:(hp.set id (rowB m 0))[id]?=some (rowB m 0):=by rw [List.getElem?_set_self hid]
      by_cases hn2:k2<l.length-i
      ·have hlt2:((k2:Int)<((l.length-i:Nat):Int))=True:=eq_true (by omega)
       have e2:((k2:Int)-1).toNat=k2-1:=by omega
       by_cases he2:m.getD (i+k2) 0=m.getD (i+(k2-1)) 0
       ·have t3:(m.getD (i+k2) 0=m.getD (i+(k2-1)) 0)=True:=eq_true he2
        have hsp:=@Nat.succ_ne_zero;repeat' (first|simp (disch:=first|exact dq|fail) only [go_sem,hsp,q5,q3,q0,q4,hlt2,t3,e2,hgm,hid,Fc.ln32,Fc.as32]|refine WP_drw ?_|refine cnd_intro (fun hsp=>?_) fun hsp=>?_)
        exact ⟨⟨k2+1,k,m,by simp,rfl,rfl,hm,by omega,by omega⟩,by omega⟩
       ·have t3:(m.getD (i+k2) 0=m.getD (i+(k2-1)) 0)=False:=eq_false he2
        have hsp:=@Nat.succ_ne_zero;repeat' (first|simp (disch:=first|exact dq|fail) only [go_sem,hsp,q5,q3,q0,q4,hlt2,t3,e2,hgm,hid,Fc.ln32,Fc.as32]|refine WP_drw ?_|refine cnd_intro (fun hsp=>?_) fun hsp=>?_)
        exact ⟨⟨k2+1,k+1,m.set k (m.getD (i+k2) 0),by simp,by simp,by first|rfl|exact List.set_set ..,by rw [List.length_set];exact hm,by omega,by omega⟩,by omega⟩
      ·have hlt2:((k2:Int)<((l.length-i:Nat):Int))=False:=eq_false (by omega)
       obtain ⟨m',hm',hcl⟩:=clr_part (base:=base) (o:=k) (n:=l.length-k) (k:=l.length-k) hgm (by omega) (by omega)
       have hsp:=@Nat.succ_ne_zero;repeat' (first|simp (disch:=first|exact dq|fail) only [go_sem,hsp,q5,q3,q0,q4,hlt2,sl_from,sl_to,hcl,Fc.ln32]|refine WP_drw ?_|refine cnd_intro (fun hsp=>?_) fun hsp=>?_)
       exact ⟨k,m',rfl,by first|rfl|exact List.set_set ..,by rw [hm',hm],by omega,⟨fun e=>by omega,fun hd=>absurd he (hd i hn (by omega))⟩⟩
    ·have t2:(l.getD i 0=l.getD (i-1) 0)=False:=eq_false he
     have hsp:=@Nat.succ_ne_zero;repeat' (first|simp (disch:=first|exact dq|fail) only [go_sem,hsp,r3,r0,hlt,t2,e1,hg,Fc.ln32,Fc.as32]|refine WP_drw ?_|refine cnd_intro (fun hsp=>?_) fun hsp=>?_)
     refine ⟨⟨i+1,by simp,by omega,by omega,fun j h1 h2=>?_⟩,by omega⟩
     by_cases e:j=i
     ·subst e;exact he
     ·exact hP j (by omega) h2
   ·have hlt:((i:Int)<(l.length:Int))=False:=eq_false (by omega)
    have hsp:=@Nat.succ_ne_zero;repeat' (first|simp (disch:=first|exact dq|fail) only [go_sem,hsp,r3,r0,hlt,Fc.ln32]|refine WP_drw ?_|refine cnd_intro (fun hsp=>?_) fun hsp=>?_)
    exact ⟨l.length,l,rfl,hself,rfl,Nat.le_refl _,⟨fun _ j h1 h2=>hP j (by omega) h2,fun _=>rfl⟩⟩
theorem run_compact0 {base:Nat} {h:Heap} {v:AVal} {l:List Int} (hI:Ints h v l) (h2:l.length<2):Ret prog raw base (.fn 85 [] []) [v] h (fun w H=>w=v∧H=h):=by
 have t1:((l.length:Int)<2)=True:=eq_true (by omega)
 refine ret_raw func85 rfl (by kernel_rfl) ?_
 have hsp:=@Nat.succ_ne_zero;repeat' (first|simp (disch:=first|exact dq|fail) only [go_sem,hsp,t1,lenI hI]|refine WP_drw ?_|refine cnd_intro (fun hsp=>?_) fun hsp=>?_)
def riseB (l:List Int):Bool:=decide (∀ i,i<l.length→0<i→l.getD (i-1) 0<l.getD i 0)
end Go.AM
