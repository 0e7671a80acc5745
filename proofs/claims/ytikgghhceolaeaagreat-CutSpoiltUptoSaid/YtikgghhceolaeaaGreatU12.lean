/-
  Plain: wants that are used or needed, prices, faults that are made or mended.
-/
import Derived.Test.YtikgghhceolaeaaGreatU11
import Derived.Test.YtikgghhceolaeaaGreatU10
set_option linter.unusedSimpArgs false
set_option linter.unusedVariables false
namespace Go.AM
def rlxL (K:List Int) (y:Nat) (a:Int):List Int:=K.set y (max (K.getD y 0) a)
def bfX (R:Rib) (x:Nat) (K:List Int):List Int:=(cutL R x).foldl (fun K' c=>rlxL K' c.2.1.toNat (K.getD x 0+c.2.2)) (rlxL K (x+1) (K.getD x 0))
def bfN (R:Rib):Nat→List Int
 | 0=>List.replicate 61 0
 | n+1=>bfX R n (bfN R n)
def useB (R:Rib) (a:Int) (c:Ct × Int × Int):Bool:=decide (a+c.2.2+valD R c.2.1.toNat=valD R 0)
def usF (R:Rib) (a:Int) (o:List Int) (c:Ct × Int × Int):List Int:=if useB R a c=true then (if c.1.w ∈ o then o else o++[c.1.w]) else o
def usN (R:Rib):Nat→List Int
 | 0=>[]
 | n+1=>(cutL R n).foldl (usF R ((bfN R n).getD n 0)) (usN R n)
def usdL (R:Rib):List Int:=(upto R.W.length).filter fun k=>decide (k ∈ usN R R.L.toNat)
def witR (R:Rib) (k:Nat):Rib:=⟨R.L,R.F,R.W.eraseIdx k⟩
def nedL (R:Rib):List Int:=(upto R.W.length).filter fun k=>decide (valD (witR R k.toNat) 0<valD R 0)
def prcR (R:Rib) (k:Nat) (p:Int):Rib:=⟨R.L,R.F,R.W.modify k fun w=>{ w with pr:=p }⟩
def rseN (R:Rib) (k:Nat):Nat→Int→Option Int
 | 0,_=>none
 | n+1,p=>if (k:Int) ∈ usdL (prcR R k p) then some p else rseN R k n (p+1)
def prcW (R:Rib) (k:Nat):Int:=match R.W[k]? with|some w=>w.pr|none=>0
def rseL (R:Rib) (k:Nat):Option Int:=rseN R k (101-prcW R k).toNat (prcW R k)
def lowL (F:List Int) (u:Int):List Int:=F.takeWhile fun y=>decide (y<u)
def insL (F:List Int) (u:Int):List Int:=lowL F u++u :: F.drop (lowL F u).length
def addR (R:Rib) (u:Int):Rib:=⟨R.L,insL R.F u,R.W⟩
def delR (R:Rib) (u:Int):Rib:=⟨R.L,R.F.eraseIdx (lowL R.F u).length,R.W⟩
def dmgL (R:Rib) (u:Int):Int × Int :=
 if ¬ (0≤u∧u≤R.L-1) then (0,1) else if u ∈ R.F then (0,5) else if (R.F.length:Int)=12 then (0,9) else (valD R 0-valD (addR R u) 0,0)
def menL (R:Rib) (u:Int):Int × Int :=
 if ¬ (0≤u∧u≤R.L-1) then (0,1) else if u ∈ R.F then (valD (delR R u) 0-valD R 0,0) else (0,6)
section
variable {R:Rib} {x:Nat}
theorem rlxL_len {K:List Int} {y:Nat} {a:Int}:(rlxL K y a).length=K.length:=by simp [rlxL]
theorem rlxL_at {K:List Int} {y i:Nat} {a:Int} (hy:y<K.length):(rlxL K y a).getD i 0=rlx (fun i=>K.getD i 0) y a i:=by
 unfold rlxL rlx
 rw [List.getD_eq_getElem?_getD,List.getElem?_set]
 by_cases h:y=i
 ·subst h;rw [if_pos rfl,if_pos hy,if_pos rfl];rfl
 ·rw [if_neg h,if_neg (fun q=>h q.symm)];show _=K.getD i 0;rw [List.getD_eq_getElem?_getD]
theorem bfX_len {K:List Int}:(bfX R x K).length=K.length:=by
 unfold bfX
 refine foldl_inv (I:=fun K':List Int=>K'.length=K.length) rlxL_len fun b c _ h=>?_
 rw [rlxL_len];exact h
theorem bfN_len:∀ {n},(bfN R n).length=61
 | 0=>by simp [bfN]
 | n+1=>by rw [bfN,bfX_len,bfN_len]
theorem bfX_at (hR:RibOk R) (hx:x<R.L.toNat) {K:List Int} (hK:K.length=61):(fun i=>(bfX R x K).getD i 0)=fwX R id x fun i=>K.getD i 0:=by
 have hL:=hR.L
 unfold bfX fwX
 have main:∀ (l:List (Ct × Int × Int)) (K1:List Int) (K2:Nat→Int),(∀ c ∈ l,c ∈ cutL R x)→K1.length=61→(fun i=>K1.getD i 0)=K2 →
   (fun i=>(l.foldl (fun K' c=>rlxL K' c.2.1.toNat (K.getD x 0+c.2.2)) K1).getD i 0)=l.foldl (fun K' c=>rlx K' c.2.1.toNat ((fun i=>K.getD i 0) x+id c.2.2)) K2:=by
  intro l
  induction l with
  | nil=>intro K1 K2 _ _ h;exact h
  | cons c l ih =>
   intro K1 K2 hl hk h
   rw [List.foldl_cons,List.foldl_cons]
   have hb:=(cutL_b hR hx (hl c (by simp))).1
   refine ih _ _ (fun d hd=>hl d (by simp [hd])) (by rw [rlxL_len];exact hk) ?_
   funext i
   rw [rlxL_at (by omega),h];rfl
 refine main (cutL R x) (rlxL K (x+1) (K.getD x 0)) (rlx (fun i=>K.getD i 0) (x+1) (K.getD x 0)) (fun _ h=>h) (by rw [rlxL_len];exact hK) ?_
 funext i
 rw [rlxL_at (by omega)]
theorem bfN_at (hR:RibOk R):∀ {n:Nat},n≤R.L.toNat→(fun i=>(bfN R n).getD i 0)=fwN R id n 0 fun _=>0
 | 0,_=>by
  funext i
  simp only [bfN,fwN,List.getD_eq_getElem?_getD,List.getElem?_replicate]
  split<;>rfl
 | n+1,h=>by
  rw [bfN,bfX_at hR (by omega) bfN_len,bfN_at hR (by omega),fwN_succ,Nat.zero_add]
def befD (R:Rib) (x:Nat):Int:=(bfN R x).getD x 0
theorem befD_fw (hR:RibOk R) (hx:x≤R.L.toNat) {n:Nat} (hn:x≤n) (hn2:n≤R.L.toNat):fwN R id n 0 (fun _=>0) x=befD R x:=by
 unfold befD
 have h1:(bfN R x).getD x 0=fwN R id x 0 (fun _=>0) x:=congrFun (bfN_at hR hx) x
 rw [h1]
 have:∀ m,x+m≤R.L.toNat→fwN R id (x+m) 0 (fun _=>0) x=fwN R id x 0 (fun _=>0) x:=by
  intro m
  induction m with
  | zero=>intro _;rfl
  | succ m ih =>
   intro hm
   rw [show x+(m+1)=(x+m)+1 by omega,fwN_succ,fwX_low hR (by omega) (by omega),ih (by omega)]
 have:=this (n-x) (by omega)
 rwa [show x+(n-x)=n by omega] at this
theorem bfN_bd (hR:RibOk R) {n:Nat} (hn:n≤R.L.toNat):∀ y,n≤y→y≤R.L.toNat→0≤(bfN R n).getD y 0∧(bfN R n).getD y 0+valD R y≤valD R 0:=by
 have hF:Fw R (valD R) 0 n (fwN R id n 0 fun _=>0):=by
  induction n with
  | zero=>exact ⟨fun y _ h2=>by have:=(valD_back hR).mono y 0 (by omega);rw [Nat.zero_add] at this;simp only [fwN];omega,0,Nat.le_refl _,by omega,by simp [fwN]⟩
  | succ n ih =>
   rw [fwN_succ,Nat.zero_add]
   exact (ih (by omega)).step hR (valD_back hR) (by omega)
 have h0:∀ n,∀ y,0≤fwN R id n 0 (fun _=>0) y:=by
  intro n
  induction n with
  | zero=>intro y;exact Int.le_refl _
  | succ n ih =>
   intro y
   rw [fwN_succ]
   unfold fwX
   refine foldl_inv (I:=fun K':Nat→Int=>0≤K' y) (Int.le_trans (ih y) rlx_ge) fun b c _ h=>Int.le_trans h rlx_ge
 intro y h1 h2
 have e:(bfN R n).getD y 0=fwN R id n 0 (fun _=>0) y:=congrFun (bfN_at hR hn) y
 rw [e]
 exact ⟨h0 n y,hF.le y h1 h2⟩
theorem bfN_all (hR:RibOk R):∀ {n:Nat},n≤R.L.toNat→∀ y,0≤(bfN R n).getD y 0∧(bfN R n).getD y 0≤6000:=by
 intro n hn y
 have hL:=hR.L
 have e:∀ n,n≤R.L.toNat→∀ y,(bfN R n).getD y 0=fwN R id n 0 (fun _=>0) y:=fun n hn y=>congrFun (bfN_at hR hn) y
 by_cases h1:y<n
 ·have h2:=bfN_bd hR (n:=y) (by omega) y (Nat.le_refl _) (by omega)
  have h3:=befD_fw hR (x:=y) (by omega) (n:=n) (by omega) hn
  unfold befD at h3
  rw [e n hn y,h3]
  have:=valD_bd hR (x:=y)
  have:=valD_bd hR (x:=0)
  omega
 ·by_cases h2:y≤R.L.toNat
  ·have h3:=bfN_bd hR hn y (by omega) h2
   have:=valD_bd hR (x:=y)
   have:=valD_bd hR (x:=0)
   omega
  ·have:∀ n,n≤R.L.toNat→fwN R id n 0 (fun _=>0) y=0:=by
    intro n
    induction n with
    | zero=>intro _;rfl
    | succ n ih =>
     intro hn
     rw [fwN_succ]
     unfold fwX
     refine foldl_inv (I:=fun K':Nat→Int=>K' y=0) (by rw [rlx_ne (by omega)];exact ih (by omega)) fun b c hc h=>?_
     have hb:=(cutL_b hR (by omega) hc).1
     rw [rlx_ne (by omega)];exact h
   rw [e n hn y,this n hn];omega
theorem bfX_part (hR:RibOk R) (hx:x<R.L.toNat) {K:List Int} (h:∀ y,0≤K.getD y 0∧K.getD y 0≤6000) (hK:K.length=61) {l:List (Ct × Int × Int)} (hl:∀ c ∈ l,c ∈ cutL R x) :
  ∀ y,0≤(l.foldl (fun K' c=>rlxL K' c.2.1.toNat (K.getD x 0+c.2.2)) (rlxL K (x+1) (K.getD x 0))).getD y 0∧(l.foldl (fun K' c=>rlxL K' c.2.1.toNat (K.getD x 0+c.2.2)) (rlxL K (x+1) (K.getD x 0))).getD y 0≤6100:=by
 have hL:=hR.L
 refine (foldl_inv (I:=fun K':List Int=>K'.length=61∧∀ y,0≤K'.getD y 0∧K'.getD y 0≤6100) ⟨by rw [rlxL_len];exact hK,fun y=>?_⟩ fun b c hc hI=>⟨by rw [rlxL_len];exact hI.1,fun y=>?_⟩).2
 ·rw [rlxL_at (by omega)]
  have:=h y
  have:=h x
  have:=h (x+1)
  unfold rlx;dsimp only;split<;>omega
 ·have hb:=(cutL_b hR hx (hl c hc)).1
  have hL:=hR.L
  rw [rlxL_at (by have:=hI.1;omega)]
  have:=hI.2 y
  have:=hI.2 c.2.1.toNat
  have:=h x
  unfold rlx;dsimp only;split<;>omega
theorem usF_mem {a:Int} {o:List Int} {c:Ct × Int × Int} {k:Int}:k ∈ usF R a o c ↔ k ∈ o ∨ (useB R a c=true∧c.1.w=k):=by
 unfold usF
 by_cases h:useB R a c=true
 ·rw [if_pos h]
  by_cases h2:c.1.w ∈ o
  ·rw [if_pos h2]
   exact ⟨.inl,fun q=>q.elim id fun z=>z.2 ▸ h2⟩
  ·rw [if_neg h2,List.mem_append,List.mem_singleton]
   exact ⟨fun q=>q.imp id fun z=>⟨h,z.symm⟩,fun q=>q.imp id fun z=>z.2.symm⟩
 ·rw [if_neg h]
  exact ⟨.inl,fun q=>q.elim id fun z=>absurd z.1 h⟩
theorem usF_nodup {a:Int} {o:List Int} {c:Ct × Int × Int} (h:o.Nodup):(usF R a o c).Nodup:=by
 unfold usF
 split
 ·split
  ·exact h
  ·rename_i h2
   rw [List.nodup_append]
   refine ⟨h,by simp,fun x hx y hy e=>?_⟩
   simp at hy
   subst hy;subst e;exact h2 hx
 ·exact h
theorem usN_mem {k:Int}:∀ {n:Nat},k ∈ usN R n ↔ ∃ x,x<n∧∃ c ∈ cutL R x,useB R (befD R x) c=true∧c.1.w=k
 | 0=>by simp [usN]
 | n+1=>by
  have ih:=usN_mem (k:=k) (n:=n)
  have main:∀ (l:List (Ct × Int × Int)) (o:List Int),k ∈ l.foldl (usF R (befD R n)) o ↔ k ∈ o ∨ ∃ c ∈ l,useB R (befD R n) c=true∧c.1.w=k:=by
   intro l
   induction l with
   | nil=>intro o;simp
   | cons c l ihl =>
    intro o
    rw [List.foldl_cons,ihl,usF_mem]
    simp only [List.mem_cons,exists_eq_or_imp]
    exact or_assoc
  show k ∈ (cutL R n).foldl (usF R (befD R n)) (usN R n) ↔ _
  rw [main,ih]
  constructor
  ·rintro (⟨x,h1,h2⟩|h)
   ·exact ⟨x,by omega,h2⟩
   ·exact ⟨n,by omega,h⟩
  ·rintro ⟨x,h1,h2⟩
   by_cases e:x=n
   ·subst e;exact .inr h2
   ·exact .inl ⟨x,by omega,h2⟩
theorem usN_nodup:∀ {n:Nat},(usN R n).Nodup
 | 0=>by simp [usN]
 | n+1=>by
  have:=usN_nodup (n:=n)
  exact foldl_inv (I:=fun o:List Int=>o.Nodup) this fun b c _ h=>usF_nodup h
theorem usN_b (hR:RibOk R) {n:Nat} (hn:n≤R.L.toNat) {k:Int} (h:k ∈ usN R n):0≤k∧k<R.W.length:=by
 obtain ⟨x,hx,c,hc,_,rfl⟩:=usN_mem.1 h
 have hb:=cutL_b hR (by omega) hc
 exact ⟨hb.2.2.1,hb.2.2.2.1⟩
theorem usdL_mem (hR:RibOk R) {k:Int}:k ∈ usdL R ↔ k ∈ usN R R.L.toNat:=by
 unfold usdL
 rw [List.mem_filter,upto_mem,decide_eq_true_eq]
 exact ⟨fun h=>h.2,fun h=>⟨usN_b hR (Nat.le_refl _) h,h⟩⟩
theorem usdL_rise:(usdL R).Pairwise (·<·):=(upto_sorted _).filter _
theorem usN_len (hR:RibOk R) {n:Nat} (hn:n≤R.L.toNat):(usN R n).length≤6:=by
 have:=pigeon (R:=fun (a:Int) (b:Nat)=>a=(b:Int)) (l:=usN R n) (t:=List.range R.W.length) usN_nodup (fun a ha=>⟨a.toNat,List.mem_range.2 (by have:=usN_b hR hn ha;omega),by have:=usN_b hR hn ha;omega⟩) (fun a _ c _ b _ h1 h2=>h1.trans h2.symm)
 rw [List.length_range] at this
 have:=hR.nW;omega
end
section
variable {R:Rib}
theorem RibOk.prc (hR:RibOk R) {k:Nat} {p:Int} (hp:0≤p∧p≤100):RibOk (prcR R k p):=by
 refine ⟨hR.L,hR.nF,by have:=hR.nW;simpa [prcR] using this,fun w hw=>?_,hR.F,hR.s⟩
 obtain ⟨i,hi⟩:=List.mem_iff_getElem?.1 hw
 simp only [prcR,List.getElem?_modify] at hi
 cases hx:R.W[i]? with
 | none=>rw [hx] at hi;cases hi
 | some v =>
  rw [hx] at hi
  have hv:=hR.W v (List.mem_of_getElem? hx)
  have hi:=Option.some.inj hi
  split at hi
  ·subst hi;exact ⟨hv.lg,hp,hv.off,hv.fl,hv.jn⟩
  ·subst hi;exact hv
theorem low_mem {F:List Int} (hs:F.Pairwise (·<·)) {u y:Int} (hy:y ∈ F):y ∈ lowL F u ↔ y<u:=by
 unfold lowL
 induction F with
 | nil=>cases hy
 | cons z F ih =>
  rw [List.takeWhile_cons]
  have hs':=List.pairwise_cons.1 hs
  by_cases c:z<u
  ·rw [decide_eq_true c]
   simp only [if_true,List.mem_cons]
   rcases List.mem_cons.1 hy with rfl|q
   ·exact ⟨fun _=>c,fun _=>.inl rfl⟩
   ·have:=hs'.1 y q
    rw [ih hs'.2 q]
    exact ⟨fun h=>h.elim (fun e=>by omega) id,.inr⟩
  ·rw [decide_eq_false c]
   simp only [Bool.false_eq_true,if_false,List.not_mem_nil,false_iff]
   rcases List.mem_cons.1 hy with rfl|q
   ·exact c
   ·have:=hs'.1 y q;omega
theorem low_take {F:List Int} {u:Int}:lowL F u=F.take (lowL F u).length:=by
 unfold lowL
 induction F with
 | nil=>rfl
 | cons z F ih =>
  rw [List.takeWhile_cons]
  split
  ·rw [List.length_cons,List.take_succ_cons,← ih]
  ·rfl
theorem low_split {F:List Int} {u:Int}:F=lowL F u++F.drop (lowL F u).length:=by
 have h:=List.take_append_drop (lowL F u).length F
 rw [← low_take] at h;exact h.symm
theorem low_le {F:List Int} {u:Int}:(lowL F u).length≤F.length:=by
 have:=congrArg List.length (low_split (F:=F) (u:=u))
 rw [List.length_append] at this;omega
theorem low_lt {F:List Int} {u y:Int} (h:y ∈ lowL F u):y<u:=by
 unfold lowL at h
 induction F with
 | nil=>cases h
 | cons z F ih =>
  rw [List.takeWhile_cons] at h
  split at h
  ·rename_i c
   rcases List.mem_cons.1 h with rfl|h
   ·exact of_decide_eq_true c
   ·exact ih h
  ·cases h
theorem low_rest {F:List Int} (hs:F.Pairwise (·<·)) {u y:Int} (h:y ∈ F.drop (lowL F u).length):u≤y:=by
 have hy:=List.mem_of_mem_drop h
 rcases Int.lt_or_le y u with q|q
 ·exfalso
  have h1:=(low_mem hs hy).2 q
  have h2:(lowL F u++F.drop (lowL F u).length).Pairwise (·<·):=by rw [← low_split];exact hs
  have:=(List.pairwise_append.1 h2).2.2 y h1 y h
  omega
 ·exact q
theorem insL_mem {F:List Int} {u y:Int}:y ∈ insL F u ↔ y ∈ F ∨ y=u:=by
 unfold insL
 have h:y ∈ F ↔ y ∈ lowL F u ∨ y ∈ F.drop (lowL F u).length:=by
  rw [← List.mem_append,← low_split]
 rw [List.mem_append,List.mem_cons,h]
 constructor
 ·rintro (q|q|q)
  ·exact .inl (.inl q)
  ·exact .inr q
  ·exact .inl (.inr q)
 ·rintro ((q|q)|q)
  ·exact .inl q
  ·exact .inr (.inr q)
  ·exact .inr (.inl q)
theorem insL_rise {F:List Int} (hs:F.Pairwise (·<·)) {u:Int} (hu:u ∉ F):(insL F u).Pairwise (·<·):=by
 unfold insL
 have h2:(lowL F u++F.drop (lowL F u).length).Pairwise (·<·):=by rw [← low_split];exact hs
 obtain ⟨p1,p2,p3⟩:=List.pairwise_append.1 h2
 rw [List.pairwise_append,List.pairwise_cons]
 refine ⟨p1,⟨fun y hy=>?_,p2⟩,fun a ha b hb=>?_⟩
 ·have:=low_rest hs hy
  have:y ≠ u:=fun e=>hu (e ▸ List.mem_of_mem_drop hy)
  omega
 ·rcases List.mem_cons.1 hb with rfl|q
  ·exact low_lt ha
  ·exact p3 a ha b q
theorem insL_len {F:List Int} {u:Int}:(insL F u).length=F.length+1:=by
 unfold insL
 have:=low_le (F:=F) (u:=u)
 rw [List.length_append,List.length_cons,List.length_drop];omega
theorem low_at {F:List Int} (hs:F.Pairwise (·<·)) {u:Int} (hu:u ∈ F):F[(lowL F u).length]?=some u:=by
 have h:u ∈ lowL F u ∨ u ∈ F.drop (lowL F u).length:=by rw [← List.mem_append,← low_split];exact hu
 rcases h with q|q
 ·have:=low_lt q;omega
 ·obtain ⟨z,zs,hz⟩:∃ z zs,F.drop (lowL F u).length=z :: zs:=by
   cases hd:F.drop (lowL F u).length with
   | nil=>rw [hd] at q;cases q
   | cons z zs=>exact ⟨z,zs,rfl⟩
  have hzu:z=u:=by
   rw [hz] at q
   have h1:=low_rest hs (u:=u) (y:=z) (by rw [hz];simp)
   rcases List.mem_cons.1 q with e|e
   ·exact e.symm
   ·have hp:(F.drop (lowL F u).length).Pairwise (·<·):=hs.sublist (List.drop_sublist _ _)
    rw [hz] at hp
    have:=(List.pairwise_cons.1 hp).1 u e
    omega
  have:=congrArg (fun l=>l[0]?) hz
  simp only [List.getElem?_drop,Nat.add_zero,List.getElem?_cons_zero] at this
  rw [this,hzu]
theorem del_eq {F:List Int} (hs:F.Pairwise (·<·)) {u:Int} (hu:u ∈ F):F.eraseIdx (lowL F u).length=F.filter (fun y=>decide (y ≠ u)):=by
 have hlt:=(List.getElem?_eq_some_iff.1 (low_at hs hu)).1
 have hsp:=low_split (F:=F) (u:=u)
 have hd:F.drop (lowL F u).length=u :: F.drop ((lowL F u).length+1):=by
  rw [List.drop_eq_getElem_cons hlt,(List.getElem?_eq_some_iff.1 (low_at hs hu)).2]
 rw [List.eraseIdx_eq_take_drop_succ,← low_take]
 conv=>rhs;rw [hsp,hd]
 rw [List.filter_append,List.filter_cons]
 have h2:(lowL F u++u :: F.drop ((lowL F u).length+1)).Pairwise (·<·):=by rw [← hd,← hsp];exact hs
 obtain ⟨p1,p2,p3⟩:=List.pairwise_append.1 h2
 rw [List.filter_eq_self.2 (fun y hy=>by have:=low_lt hy;simp;omega)]
 simp only [ne_eq,not_true_eq_false,decide_false,Bool.false_eq_true,if_false]
 rw [List.filter_eq_self.2 (fun y hy=>by have:=(List.pairwise_cons.1 p2).1 y hy;simp;omega)]
theorem RibOk.add (hR:RibOk R) {u:Int} (hu:0≤u∧u≤R.L-1) (hn:u ∉ R.F) (hl:R.F.length<12):RibOk (addR R u):=by
 refine ⟨hR.L,?_,hR.nW,hR.W,fun y hy=>?_,insL_rise hR.s hn⟩
 ·simp only [addR,insL_len];omega
 ·rcases insL_mem.1 hy with q|q
  ·exact hR.F y q
  ·rw [q];exact hu
theorem RibOk.del (hR:RibOk R) {u:Int} (hu:u ∈ R.F):RibOk (delR R u):=by
 refine ⟨hR.L,?_,hR.nW,hR.W,fun y hy=>hR.F y (List.mem_of_mem_eraseIdx hy),?_⟩
 ·have:=List.length_eraseIdx_le R.F (lowL R.F u).length;have:=hR.nF;simp only [delR];omega
 ·simp only [delR];rw [del_eq hR.s hu];exact hR.s.filter _
def turF (R:Rib) (u:Int):List Int:=(upto R.L.toNat).filter fun y=>decide (y ∈ R.F) != decide (y=u)
end
end Go.AM
namespace Go.AM
def upS (s:List Int × List Int) (y:Nat) (a c:Int):List Int × List Int:=if thB true (a,c) (s.1.getD y 0,s.2.getD y 0)=true then (s.1.set y a,s.2.set y c) else s
def upC (x:Nat) (t:List Int × List Int) (c:Ct × Int × Int):List Int × List Int:=upS t c.2.1.toNat (t.1.getD x 0+c.2.2) (t.2.getD x 0+1)
def upX (R:Rib) (x:Nat) (s:List Int × List Int):List Int × List Int:=(cutL R x).foldl (upC x) (upS s (x+1) (s.1.getD x 0) (s.2.getD x 0))
def upN (R:Rib) (f:Nat):Nat→List Int × List Int
 | 0=>(List.replicate (R.L.toNat+1) 0,List.replicate (R.L.toNat+1) 0)
 | n+1=>upX R (f+n) (upN R f n)
structure UpK (n:Nat) (s:List Int × List Int):Prop where
 l1:s.1.length=n+1
 l2:s.2.length=n+1
 b1:∀ y:Nat,0≤s.1.getD y 0∧s.1.getD y 0≤100 * (y:Int)
 b2:∀ y:Nat,0≤s.2.getD y 0∧s.2.getD y 0≤(y:Int)
def keyS (s:List Int × List Int):Nat→Int:=fun i=>key true (s.1.getD i 0,s.2.getD i 0)
section
variable {R:Rib} {x:Nat}
end
end Go.AM
namespace Go.AM
section
variable {R:Rib} {x:Nat}
end
end Go.AM
namespace Go.AM
section
variable {bad bad':Nat→Bool} {j:Bool} {lg:Int} {u:Nat}
end
def tlR (R:Rib) (u:Nat):Rib:=⟨R.L-u,(R.F.filter fun y=>decide ((u:Int)≤y)).map (·-(u:Int)),R.W⟩
section
variable {R:Rib} {u x:Nat}
end
end Go.AM
namespace Go.AM
theorem valD_mono {R R':Rib} (hR:RibOk R) (hR':RibOk R') (hL:R.L.toNat≤R'.L.toNat)
  (h:∀ (k:Nat) (w:Wnt) (x:Nat) (j:Bool) (e p:Int),x<R.L.toNat→R.W[k]?=some w→takL R w x j=some (e,p)→∃ (k':Nat) (w':Wnt) (p':Int),R'.W[k']?=some w'∧takL R' w' x j=some (e,p')∧p≤p'):valD R 0≤valD R' 0:=by
 refine valD_least hR (v:=valD R') (valD_bd hR').1 (fun x hx=>valD_up hR' (by omega)) (fun x hx c hc=>?_) R.L.toNat 0 (by omega)
 obtain ⟨k,w,j,hw,ht,he⟩:=cutL_mem.1 hc
 obtain ⟨k',w',p',hw',ht',hp⟩:=h k w x j c.2.1 c.2.2 hx hw ht
 have hm:((⟨(k':Int),(x:Int),j⟩:Ct),(c.2.1,p')) ∈ cutL R' x:=cutL_mem.2 ⟨k',w',j,hw',ht',rfl⟩
 have:=valD_cut hR' (show x<R'.L.toNat by omega) hm
 simp only at this
 omega
structure WntLe (w w':Wnt):Prop where
 lg:w'.lg=w.lg
 pr:w.pr≤w'.pr
 off:w'.off≤w.off
 fl:w.fl≤w'.fl
 jn:w.jn≤w'.jn
end Go.AM
namespace Go.AM
section
variable {R:Rib} {x:Nat}
end
end Go.AM
namespace Go.AM
open Go.Proofs.Tryz
theorem dq {p:Prop} (h:p:=by first|exact Nat.ne_of_beq_eq_false rfl|assumption|(apply asOne;(first|exact One.int|exact One.bool|assumption|exact Ints.one (by assumption)|exact Rows.one (by assumption)|exact Own.one (by assumption)|exact One.lit ⟨rfl,rfl,rfl⟩|exact Bytes.one (by assumption)))|(apply asSp;(repeat first|assumption|apply SpAt.set|(refine SpAt.new ?_ (by (first|rfl|(simp only [List.length_append,List.length_cons,List.length_nil,List.length_set];done)|(simp only [List.length_append,List.length_cons,List.length_nil,List.length_set];omega))))|apply SpAt.app|apply Bytes.app);done)|(apply asBytes;(repeat first|assumption|apply Bytes.app);done)|(apply asInts;(repeat first|assumption|exact ints_nil|apply Ints.app);done)|(apply asRows;(repeat first|assumption|exact Rows.nil|apply Rows.app);done)|(apply asScal;(first|apply allS1|apply allS2|apply allS3|apply allS4)<;>(first|exact One.int|exact One.bool|assumption|exact Ints.one (by assumption)|exact Rows.one (by assumption)|exact Own.one (by assumption)|exact One.lit ⟨rfl,rfl,rfl⟩|exact Bytes.one (by assumption)))|exact litT rfl|exact litF rfl|omega|(simp only [List.length_append,List.length_cons,List.length_nil,List.length_set,List.length_reverse];first|done|omega)|fail):p:=h
def spMid (silk:List Int) (k st:Nat):Nat:=if 0<silk.length then (st+(silk.getD (k % silk.length) 0).toNat * 977) % 18446744073709551616 else st
def wd (silk:List Int):Nat→Nat
 | 0=>silk.length
 | k+1=>if silk.length<k+1 then (spMid silk k (wd silk k) * 1103515245+12345) % 18446744073709551616 else spMid silk k (wd silk k)
def tv (silk:List Int) (k:Nat):Nat:=(wd silk (k+1) / 8 ^^^ wd silk (k+1) / 524288) % 65536
def up (silk:List Int) (k:Nat) (n:Int):Int:=(tv silk k:Int) % max 1 (n+1)
theorem tv_lt {silk:List Int} {k:Nat}:tv silk k<65536:=Nat.mod_lt _ (by decide)
theorem up_bd {silk:List Int} {k:Nat} {n:Int} (h:0≤n):0≤up silk k n∧up silk k n≤n∧up silk k n<65536:=by
 have h1:=tv_lt (silk:=silk) (k:=k)
 unfold up
 have e:max 1 (n+1)=n+1:=by omega
 rw [e]
 have h2:=Int.emod_nonneg (tv silk k:Int) (show n+1 ≠ 0 by omega)
 have h3:=Int.emod_lt_of_pos (tv silk k:Int) (show 0<n+1 by omega)
 have h4:(tv silk k:Int) % (n+1)≤tv silk k:=by
  by_cases hh:(tv silk k:Int)<n+1
  ·rw [Int.emod_eq_of_lt (by omega) hh];exact Int.le_refl _
  ·omega
 omega
theorem spMid_lt {silk:List Int} {k st:Nat} (h:st<18446744073709551616):spMid silk k st<18446744073709551616:=by
 unfold spMid;split<;>omega
theorem wd_lt {silk:List Int} (h:silk.length<18446744073709551616):∀ k,wd silk k<18446744073709551616
 | 0=>h
 | k+1=>by
  have:=spMid_lt (silk:=silk) (k:=k) (wd_lt h k)
  simp only [wd]
  split<;>omega
def spB (v:AVal) (silk:List Int) (k:Nat):ABlk:=⟨.cells [v,.int .i64 (k:Int),.int .u64 (wd silk k:Int)] 91 false false,0⟩
def SpAt (H:Heap) (id:Nat) (v:AVal) (silk:List Int) (k:Nat):Prop:=H[id]?=some (spB v silk k)∧Bytes H v silk∧∀ r n c,v=.slice (some r) n c→r.id ≠ id
theorem asSp {H:Heap} {id:Nat} {v:AVal} {silk:List Int} {k:Nat} (x:SpAt H id v silk k):SpAt H id v silk k:=x
theorem SpAt.app {H T:Heap} {id:Nat} {v:AVal} {silk:List Int} {k:Nat} (x:SpAt H id v silk k):SpAt (H++T) id v silk k:=⟨get_app x.1,x.2.1.app,x.2.2⟩
theorem SpAt.set {H:Heap} {id:Nat} {v:AVal} {silk:List Int} {k m:Nat} (x:SpAt H id v silk k):SpAt (H.set id (spB v silk m)) id v silk m:=by
 refine ⟨by rw [List.getElem?_set_self (lt_of_get x.1)],x.2.1.set x.2.2,x.2.2⟩
theorem Bytes.low {H:Heap} {v:AVal} {l:List Int} (h:Bytes H v l):∀ r n c,v=.slice (some r) n c→r.id<H.length:=by
 intro r n c e
 rcases h.2 with ⟨rfl,_⟩|⟨rfl,_⟩|⟨r',k',c',e',row,ro,h1,h2,_⟩
 ·cases e
 ·cases e
 ·rw [h1] at e
  cases e
  exact lt_of_get h2
theorem SpAt.new {H:Heap} {id:Nat} {v:AVal} {silk:List Int} {k:Nat} (h:Bytes H v silk) (hid:id=H.length):SpAt (H++[spB v silk k]) id v silk k:=by
 refine ⟨by rw [get_eq hid],h.app,fun r n c e=>?_⟩
 have:=h.low r n c e
 omega
theorem wrapU {n:Nat}:IntKind.u64.wrap (n:Int)=((n % 18446744073709551616:Nat):Int):=by
 simp [IntKind.wrap,IntKind.signed,IntKind.bits]
theorem addU {t:TypeId} {a b:Nat}:binA prog .add t (.int .u64 (a:Int)) (.int .u64 (b:Int))=some (.int .u64 (((a+b) % 18446744073709551616:Nat):Int)):=by
 rw [bin_add,← Int.natCast_add,wrapU]
theorem mulU {t:TypeId} {a b:Nat}:binA prog .mul t (.int .u64 (a:Int)) (.int .u64 (b:Int))=some (.int .u64 (((a * b) % 18446744073709551616:Nat):Int)):=by
 rw [bin_mul,← Int.natCast_mul,wrapU]
theorem shrU {t:TypeId} {a b:Nat} (hb:b≤60):binA prog .shr t (.int .u64 (a:Int)) (.int .u64 (b:Int))=some (.int .u64 ((a / 2 ^ b:Nat):Int)):=by
 rw [bin_shr (by omega)]
 have e:min (b:Int).toNat IntKind.u64.bits=b:=by simp [IntKind.bits];omega
 rw [e]
 have e2:((2:Int) ^ b)=((2 ^ b:Nat):Int):=by simp
 rw [e2,Int.fdiv_eq_ediv_of_nonneg _ (Int.natCast_nonneg _)]
 rfl
theorem xorU {t:TypeId} {a b:Nat} (ha:a<18446744073709551616) (hb:b<18446744073709551616):binA prog .xor t (.int .u64 (a:Int)) (.int .u64 (b:Int))=some (.int .u64 ((a ^^^ b:Nat):Int)):=by
 have hx:a ^^^ b<2 ^ 64:=Nat.xor_lt_two_pow (by omega) (by omega)
 have e:BitVec.ofInt 64 (a:Int) ^^^ BitVec.ofInt 64 (b:Int)=BitVec.ofNat 64 (a ^^^ b):=by
  apply BitVec.eq_of_toNat_eq
  simp [BitVec.toNat_xor,BitVec.toNat_ofInt]
 have h1:(BitVec.ofNat 64 (a ^^^ b)).toNat=a ^^^ b:=by rw [BitVec.toNat_ofNat,Nat.mod_eq_of_lt (by omega)]
 show some (AVal.int .u64 (IntKind.u64.wrap ((BitVec.ofInt 64 (a:Int) ^^^ BitVec.ofInt 64 (b:Int)).toNat:Int)))=_
 rw [e,h1,wrapU,Nat.mod_eq_of_lt (by omega)]
theorem and16 {t:TypeId} {a:Nat} (ha:a<9223372036854775808):binA prog .and t (.int .i64 (a:Int)) (.int .i64 65535)=some (.int .i64 ((a % 65536:Nat):Int)):=by
 have e:BitVec.ofInt 64 (a:Int) &&& BitVec.ofInt 64 65535=BitVec.ofNat 64 (a % 65536):=by
  apply BitVec.eq_of_toNat_eq
  have h2:a &&& 65535=a % 65536:=Nat.and_two_pow_sub_one_eq_mod a 16
  have h3:a % 18446744073709551616=a:=Nat.mod_eq_of_lt (by omega)
  simp [BitVec.toNat_and,BitVec.toNat_ofInt]
  have h4:(a:Int) % 18446744073709551616=a:=Int.emod_eq_of_lt (by omega) (by omega)
  rw [h3,h2]
  omega
 show some (AVal.int .i64 (IntKind.i64.wrap ((BitVec.ofInt 64 (a:Int) &&& BitVec.ofInt 64 65535).toNat:Int)))=_
 rw [e,BitVec.toNat_ofNat]
 have:a % 65536<65536:=Nat.mod_lt _ (by decide)
 rw [Nat.mod_eq_of_lt (by omega),wrap64 (by omega) (by omega)]
theorem cvtB {x:Nat} (hx:x≤255):convA prog 89 5 (.int .u8 (x:Int))=some (.int .u64 (x:Int)):=by
 simp only [convA,underlying5,Fc.ik89,wrapU]
 rw [Nat.mod_eq_of_lt (by omega)]
theorem cvtI {x:Nat} (hx:x<9223372036854775808):convA prog 3 89 (.int .u64 (x:Int))=some (.int .i64 (x:Int)):=by
 simp only [convA,underlying89,Fc.ik3]
 rw [wrap64 (by omega) (by omega)]
theorem cvtL {x:Nat} (hx:x<9223372036854775808):convA prog 89 3 (.int .i64 (x:Int))=some (.int .u64 (x:Int)):=by
 simp only [convA,underlying3,Fc.ik89,wrapU]
 rw [Nat.mod_eq_of_lt (by omega)]
theorem lenB {h:Heap} {v:AVal} {l:List Int} (hI:Bytes h v l):lenOpA prog h 22 v=some (.int .i64 (l.length:Int)):=hI.len Fc.el22
theorem adrB {h:Heap} {v:AVal} {l:List Int} {i:Int} (h0:0≤i) (hI:Bytes h v l) (h1:i<l.length):indexAddrA prog 22 v (.int .i64 i)=some (elAddr v i.toNat):=hI.addr Fc.el22 Fc.ar22 h0 h1
theorem loadB {h:Heap} {v:AVal} {l:List Int} {i:Nat} (hI:Bytes h v l) (h1:i<l.length):loadP prog h 5 (elAddr v i)=some (.int .u8 (l.getD i 0)) :=
 hI.load Fc.ty5 (by rw [List.getD_eq_getElem?_getD,List.getElem?_eq_getElem h1];rfl)
attribute [go_sem] lenB adrB loadB
theorem set_set' {H:Heap} {i:Nat} {a b:ABlk}:(H.set i a).set i b=H.set i b:=List.set_set ..
theorem nck {r:ARef}:nilCheckA (.ptr (some r))=some (.ptr (some r)):=rfl
attribute [go_sem] set_set' nck
theorem stQ_k {base id ver off:Nat} {c:List AVal} {e:TypeId} {row:Bool} {q:IntKind} {x:Int} {k:ABlk→Heap} (h:off<c.length) :
  stQ base id (some ⟨.cells c e row false,ver⟩) ver off [.int q x] k=some (k ⟨.cells (c.set off (.int q x)) e row false,ver⟩):=by
 simp only [stQ]
 rw [if_pos ⟨trivial,by simp only [List.length_cons,List.length_nil];omega,by simp [AVal.scalar],.inr (by simp [AVal.bare])⟩]
 rfl
theorem run_turn {base id k:Nat} {h:Heap} {v:AVal} {silk:List Int} (hS:SpAt h id v silk k) (hk:k≤1000000) :
  callL prog raw base (.fn 36 [] []) [.ptr (some ⟨id,0,0⟩)] h=some (.int .i64 (tv silk k:Int),h.set id (spB v silk (k+1))):=by
 obtain ⟨hg,hB,hv⟩:=hS
 have hid:=lt_of_get hg
 have hl:silk.length<2 ^ 60:=hB.1.1
 have hw:=wd_lt (silk:=silk) (by omega) k
 have hw1:=wd_lt (silk:=silk) (by omega) (k+1)
 have hB2:∀ {b:ABlk},Bytes (h.set id b) v silk:=fun {b}=>hB.set hv
 have hln:∀ {b:ABlk},lenOpA prog (h.set id b) 22 v=some (.int .i64 (silk.length:Int)):=fun {b}=>lenB hB2
 unfold spB at hg ⊢
 have e3:∀ {t:TypeId} {a:Nat},binA prog .shr t (.int .u64 (a:Int)) (.int .u64 3)=some (.int .u64 ((a / 8:Nat):Int)):=fun {t a}=>shrU (b:=3) (by omega)
 have e19:∀ {t:TypeId} {a:Nat},binA prog .shr t (.int .u64 (a:Int)) (.int .u64 19)=some (.int .u64 ((a / 524288:Nat):Int)):=fun {t a}=>shrU (b:=19) (by omega)
 have e977:∀ {t:TypeId} {a:Nat},binA prog .mul t (.int .u64 (a:Int)) (.int .u64 977)=some (.int .u64 (((a * 977) % 18446744073709551616:Nat):Int)):=fun {t a}=>mulU (b:=977)
 have e11:∀ {t:TypeId} {a:Nat},binA prog .mul t (.int .u64 (a:Int)) (.int .u64 1103515245)=some (.int .u64 (((a * 1103515245) % 18446744073709551616:Nat):Int)):=fun {t a}=>mulU (b:=1103515245)
 have e12:∀ {t:TypeId} {a:Nat},binA prog .add t (.int .u64 (a:Int)) (.int .u64 12345)=some (.int .u64 (((a+12345) % 18446744073709551616:Nat):Int)):=fun {t a}=>addU (b:=12345)
 have hwa:wd silk (k+1) / 8<2 ^ 61:=by omega
 have hwb:wd silk (k+1) / 524288<2 ^ 61:=by omega
 have hx:wd silk (k+1) / 8 ^^^ wd silk (k+1) / 524288<2 ^ 61:=Nat.xor_lt_two_pow hwa hwb
 have hx':binA prog .xor 89 (.int .u64 ((wd silk (k+1) / 8:Nat):Int)) (.int .u64 ((wd silk (k+1) / 524288:Nat):Int))=some (.int .u64 ((wd silk (k+1) / 8 ^^^ wd silk (k+1) / 524288:Nat):Int)):=xorU (by omega) (by omega)
 have hc':convA prog 3 89 (.int .u64 ((wd silk (k+1) / 8 ^^^ wd silk (k+1) / 524288:Nat):Int))=some (.int .i64 ((wd silk (k+1) / 8 ^^^ wd silk (k+1) / 524288:Nat):Int)):=cvtI (by omega)
 have ha':binA prog .and 3 (.int .i64 ((wd silk (k+1) / 8 ^^^ wd silk (k+1) / 524288:Nat):Int)) (.int .i64 65535)=some (.int .i64 (tv silk k:Int)):=and16 (by omega)
 have ek:((k:Int)+1)=((k+1:Nat):Int):=by omega
 -- the end
 have hend:∀ {H:Heap},H=h.set id ⟨.cells [v,.int .i64 ((k+1:Nat):Int),.int .u64 (wd silk (k+1):Int)] 91 false false,0⟩ →
   compact h.length (.int .i64 (tv silk k:Int)) H=some (.int .i64 (tv silk k:Int),h.set id ⟨.cells [v,.int .i64 ((k+1:Nat):Int),.int .u64 (wd silk (k+1):Int)] 91 false false,0⟩):=by
  rintro _ rfl
  have e:h.length=(h.set id ⟨.cells [v,.int .i64 ((k+1:Nat):Int),.int .u64 (wd silk (k+1):Int)] 91 false false,0⟩).length:=by simp
  rw [e]
  exact compact_plain' rfl
 refine callL_run func36 rfl rfl ?_
 by_cases hp:0<silk.length
 ·have hp':((silk.length:Int) > 0)=True:=eq_true (by omega)
  have hm:=Nat.mod_lt k hp
  have hd:=hB.1.2 _ (getD_mem (l:=silk) (i:=k % silk.length) hm)
  obtain ⟨x,ex⟩:∃ x:Nat,silk.getD (k % silk.length) 0=(x:Int):=⟨(silk.getD (k % silk.length) 0).toNat,by omega⟩
  have ex2:loadP prog h 5 (elAddr v (k % silk.length))=some (.int .u8 (x:Int)):=by rw [loadB hB hm,ex]
  have er:binA prog .rem 3 (.int .i64 (k:Int)) (.int .i64 (silk.length:Int))=some (.int .i64 ((k % silk.length:Nat):Int)):=by rw [bin_rem (by omega),tmodN]
  have emid:spMid silk k (wd silk k)=(wd silk k+x * 977 % 18446744073709551616) % 18446744073709551616:=by
   unfold spMid
   rw [if_pos hp,ex,Int.toNat_natCast]
   omega
  by_cases hq:silk.length<k+1
  ·have hq':(((k+1:Nat):Int) > (silk.length:Int))=True:=eq_true (by omega)
   have ew:((((wd silk k+x * 977 % 18446744073709551616) % 18446744073709551616) * 1103515245) % 18446744073709551616+12345) % 18446744073709551616=wd silk (k+1):=by
    simp only [wd];rw [if_pos hq,emid];omega
   have hsp:=@Nat.succ_ne_zero;repeat' (first|simp (disch:=first|exact dq|fail) only [go_sem,hsp,hp',hg,er,ex2,cvtB,e977,addU,ek,hq',e11,e12,stQ_k,hln,ew,e3,e19,hx',hc',ha']|refine WP_drw ?_|refine cnd_intro (fun hsp=>?_) fun hsp=>?_)
   exact hend rfl
  ·have hq':(((k+1:Nat):Int) > (silk.length:Int))=False:=eq_false (by omega)
   have ew:(wd silk k+x * 977 % 18446744073709551616) % 18446744073709551616=wd silk (k+1):=by
    simp only [wd];rw [if_neg hq,emid]
   have hsp:=@Nat.succ_ne_zero;repeat' (first|simp (disch:=first|exact dq|fail) only [go_sem,hsp,hp',hg,er,ex2,cvtB,e977,addU,ek,hq',stQ_k,hln,ew,e3,e19,hx',hc',ha']|refine WP_drw ?_|refine cnd_intro (fun hsp=>?_) fun hsp=>?_)
   exact hend rfl
 ·have hp':((silk.length:Int) > 0)=False:=eq_false (by omega)
  have hq':(((k+1:Nat):Int) > (silk.length:Int))=True:=eq_true (by omega)
  have ew:((wd silk k * 1103515245) % 18446744073709551616+12345) % 18446744073709551616=wd silk (k+1):=by
   simp only [wd];rw [if_pos (by omega)];unfold spMid;rw [if_neg hp];omega
  have hsp:=@Nat.succ_ne_zero;repeat' (first|simp (disch:=first|exact dq|fail) only [go_sem,hsp,hp',hg,e11,e12,ek,hq',stQ_k,hln,ew,e3,e19,hx',hc',ha']|refine WP_drw ?_|refine cnd_intro (fun hsp=>?_) fun hsp=>?_)
  exact hend rfl
attribute [go_sem] run_turn
theorem set_fin {h H:Heap} {id:Nat} {b:ABlk} {v:AVal} (hv:v.plain=true) (hE:Ext (h.set id b) H):compact h.length v H=some (v,h.set id b):=by
 obtain ⟨T,rfl⟩:=hE
 have e:h.length=(h.set id b).length:=by simp
 rw [e]
 exact compact_plain hv
theorem run_upto {base id k:Nat} {h:Heap} {v:AVal} {silk:List Int} {n:Int} (hS:SpAt h id v silk k) (hk:k≤1000000) (hn:-1000000000≤n∧n≤1000000000) :
  callL prog raw base (.fn 10 [] []) [.ptr (some ⟨id,0,0⟩),.int .i64 n] h=some (.int .i64 (up silk k n),h.set id (spB v silk (k+1))):=by
 have ht:=tv_lt (silk:=silk) (k:=k)
 have hm:max 1 (n+1) ≠ 0:=by omega
 have hr:(tv silk k:Int).tmod (max 1 (n+1))=up silk k n:=by
  unfold up
  rw [Int.tmod_eq_emod_of_nonneg (by omega)]
 refine callL_run func10 rfl rfl ?_
 have hsp:=@Nat.succ_ne_zero;repeat' (first|simp (disch:=first|exact dq|fail) only [go_sem,hsp,hr]|refine WP_drw ?_|refine cnd_intro (fun hsp=>?_) fun hsp=>?_)
 exact set_fin rfl .refl
theorem run_from {base id k:Nat} {h:Heap} {v:AVal} {silk:List Int} {lo hi:Int} (hS:SpAt h id v silk k) (hk:k≤1000000) (hl:-100000000≤lo∧lo≤100000000) (hh:-100000000≤hi∧hi≤100000000) :
  callL prog raw base (.fn 9 [] []) [.ptr (some ⟨id,0,0⟩),.int .i64 lo,.int .i64 hi] h=some (.int .i64 (lo+up silk k (hi-lo)),h.set id (spB v silk (k+1))):=by
 have hb:-70000≤up silk k (hi-lo)∧up silk k (hi-lo)≤70000:=by
  by_cases h0:0≤hi-lo
  ·have:=up_bd (silk:=silk) (k:=k) h0
   omega
  ·have e:max 1 (hi-lo+1)=1:=by omega
   unfold up
   rw [e]
   omega
 refine callL_run func9 rfl rfl ?_
 have hsp:=@Nat.succ_ne_zero;repeat' (first|simp (disch:=first|exact dq|fail) only [go_sem,hsp,run_upto]|refine WP_drw ?_|refine cnd_intro (fun hsp=>?_) fun hsp=>?_)
 exact set_fin rfl .refl
theorem run_once {base id k:Nat} {h:Heap} {v:AVal} {silk:List Int} {n:Int} (hS:SpAt h id v silk k) (hk:k≤1000000) (hn:-1000≤n∧n≤100000000) :
  callL prog raw base (.fn 29 [] []) [.ptr (some ⟨id,0,0⟩),.int .i64 n] h=some (.bool (decide (up silk k (n-1)=0)),h.set id (spB v silk (k+1))):=by
 refine callL_run func29 rfl rfl ?_
 have hsp:=@Nat.succ_ne_zero;repeat' (first|simp (disch:=first|exact dq|fail) only [go_sem,hsp,run_upto]|refine WP_drw ?_|refine cnd_intro (fun hsp=>?_) fun hsp=>?_)
 exact set_fin rfl .refl
theorem Bytes.refs_lt {h:Heap} {v:AVal} {l:List Int} (hI:Bytes h v l):∀ r ∈ v.refs,r.1<h.length:=by
 intro q hq
 rcases hI.2 with ⟨rfl,rfl⟩|⟨rfl,rfl⟩|⟨r,k,c,e,row,ro,rfl,h2,_⟩
 ·simp [AVal.refs] at hq
 ·simp [AVal.refs] at hq
 ·simp only [AVal.refs] at hq
  split at hq
  ·cases hq
  ·simp at hq;subst hq;exact lt_of_get h2
theorem Bytes.refs_len {h:Heap} {v:AVal} {l:List Int} (hI:Bytes h v l):v.refs.length≤1:=by
 rcases hI.2 with ⟨rfl,rfl⟩|⟨rfl,rfl⟩|⟨r,k,c,e,row,ro,rfl,h2,_⟩
 ·simp [AVal.refs]
 ·simp [AVal.refs]
 ·simp only [AVal.refs];split<;>simp
theorem Bytes.ren_low {h:Heap} {v:AVal} {l:List Int} {ids:List Nat} (hI:Bytes h v l):v.ren (newId h.length ids)=v:=by
 rcases hI.2 with ⟨rfl,rfl⟩|⟨rfl,rfl⟩|⟨r,k,c,e,row,ro,rfl,h2,_⟩
 ·rfl
 ·rfl
 ·simp only [AVal.ren,newId_lt (lt_of_get h2)]
theorem run_wound {base:Nat} {h:Heap} {v:AVal} {silk:List Int} (hB:Bytes h v silk) :
  callL prog raw base (.fn 6 [] []) [v] h=some (.ptr (some ⟨h.length,0,0⟩),h++[spB v silk 0]):=by
 have hl:silk.length<2 ^ 60:=hB.1.1
 refine callL_run func6 rfl rfl ?_
 have hsp:=@Nat.succ_ne_zero;repeat' (first|simp (disch:=first|exact dq|fail) only [go_sem,hsp,cvtL]|refine WP_drw ?_|refine cnd_intro (fun hsp=>?_) fun hsp=>?_)
 have hlow:=hB.refs_lt
 have hlen:=hB.refs_len
 have hr:refsL [v,.int .i64 0,.int .u64 (silk.length:Int)]=v.refs:=by simp [refsL,AVal.refs]
 rw [compact_gen (js:=[0]) (bs:=[spB v silk 0]) (by simp [AVal.refs]) (by decide) ?_ ?_ rfl]
 ·have n0:∀ {u:Nat},newId h.length ([0].map fun j=>h.length+j) h.length u=(h.length,0):=fun {u}=>newId_map (js:=[0]) (j:=0)
  simp only [AVal.ren,n0]
 ·intro j hj
  simp only [List.mem_cons,List.not_mem_nil,or_false] at hj
  subst hj
  refine ⟨_,_,_,_,rfl,by rw [hr];exact hlow,?_⟩
  simp only [renL,AVal.ren,hB.ren_low]
 ·simp [rcost,blkRefs,ABody.refs,refsL,AVal.refs]
  omega
end Go.AM
namespace Go.AM
open Go.Proofs.Tryz
theorem dqb {p:Prop} (h:p:=by first|exact Nat.ne_of_beq_eq_false rfl|assumption|(apply asOne;(first|exact One.int|exact One.bool|assumption|exact Ints.one (by assumption)|exact Rows.one (by assumption)|exact Own.one (by assumption)|exact One.lit ⟨rfl,rfl,rfl⟩))|(apply asInts;(repeat first|assumption|exact ints_nil|apply Ints.app);done)|(apply asRows;(repeat first|assumption|exact Rows.nil|apply Rows.app);done)|(apply asScal;(first|apply allS1|apply allS2|apply allS3|apply allS4)<;>(first|exact One.int|exact One.bool|assumption|exact Ints.one (by assumption)|exact Rows.one (by assumption)|exact Own.one (by assumption)|exact One.lit ⟨rfl,rfl,rfl⟩))|exact litT rfl|exact litF rfl|omega|(simp only [List.length_append,List.length_cons,List.length_nil,List.length_set,List.length_reverse];first|done|omega)|fail):p:=h
theorem run_clone {base:Nat} {h:Heap} {v:AVal} {l:List Int} (hI:Ints h v l) (hs:Small l):callL prog raw base (.fn 51 [] []) [v] h=some (cloneV v h.length l,h++cloneH v l):=by
 have e:=hI.eqnil (t:=32) Fc.un32
 have hlen:l.length<1073741824:=hs.1
 have ha:=fun base=>append_emp (base:=base) hI (by omega) Fc.el32
 refine callL_run func51 rfl rfl ?_
 cases hn:nilB v with
 | true =>
  rw [hn] at e
  have hsp:=@Nat.succ_ne_zero;repeat' (first|simp (disch:=first|exact dqb|fail) only [go_sem,hsp,e]|refine WP_drw ?_|refine cnd_intro (fun hsp=>?_) fun hsp=>?_)
  rw [cloneV,cloneH,if_pos hn,if_pos hn,List.append_nil]
  exact compact_plain' rfl
 | false =>
  rw [hn] at e
  have hsp:=@Nat.succ_ne_zero;repeat' (first|simp (disch:=first|exact dqb|fail) only [go_sem,hsp,e,bs_emp Fc.el32,ha]|refine WP_drw ?_|refine cnd_intro (fun hsp=>?_) fun hsp=>?_)
  rw [cloneV,cloneH,if_neg (by simp [hn]),if_neg (by simp [hn])]
  cases l with
  | nil=>simp only [newV_nil,newH_nil,List.append_nil];exact compact_plain' rfl
  | cons x xs =>
   simp only [newV_cons,newH_cons]
   exact fin_row (j:=0) (by simp) rfl (ints_plain _) rfl rfl
theorem run_nan {base:Nat} {h:Heap} {x:Int}:callL prog raw base (.fn 155 [] []) [.int .i64 x] h=some (.bool false,h):=by
 have t1:(x=x)=True:=eq_true rfl
 refine callL_run func155 rfl rfl ?_
 have hsp:=@Nat.succ_ne_zero;repeat' (first|simp (disch:=first|exact dqb|fail) only [go_sem,hsp,t1,decide_not]|refine WP_drw ?_|refine cnd_intro (fun hsp=>?_) fun hsp=>?_)
 exact fB rfl
attribute [go_sem] run_nan
theorem run_less {base:Nat} {h:Heap} {x y:Int}:callL prog raw base (.fn 139 [] []) [.int .i64 x,.int .i64 y] h=some (.bool (decide (x<y)),h):=by
 refine callL_run func139 rfl rfl ?_
 have hsp:=@Nat.succ_ne_zero;repeat' (first|simp (disch:=first|exact dqb|fail) only [go_sem,hsp]|refine WP_drw ?_|refine cnd_intro (fun hsp=>?_) fun hsp=>?_)
 exact fB rfl
attribute [go_sem] run_less
theorem run_equal {base:Nat} {h:Heap} {a b:AVal} {l m:List Int} (ha:Ints h a l) (hb:Ints h b m):callL prog raw base (.fn 123 [] []) [a,b] h=some (.bool (decide (l=m)),h):=by
 have hl:=ha.1.1
 refine callL_run func123 rfl rfl ?_
 by_cases hlm:l.length=m.length
 ·have t1:((l.length:Int)=(m.length:Int))=True:=eq_true (by omega)
  have hsp:=@Nat.succ_ne_zero;repeat' (first|simp (disch:=first|exact dqb|fail) only [go_sem,hsp,t1]|refine WP_drw ?_|refine cnd_intro (fun hsp=>?_) fun hsp=>?_)
  refine WP_loop (fun σ=>∃ n:Nat,σ.fr 13=.int .i64 (n:Int)∧σ.fr 0=a∧σ.fr 1=b∧σ.fr 12=.int .i64 (l.length:Int)∧σ.h=h∧n≤l.length∧(∀ j,j<n→l.getD j 0=m.getD j 0)) (fun σ=>match σ.fr 13 with|.int _ x=>(((l.length:Nat):Int)-x).toNat|_=>0) ?_ ?_
  ·refine ⟨0,?_,?_,?_,?_,?_,by omega,?_⟩
   iterate 5 focus (first|rfl|(simp (disch:=first|exact dqb|fail) only [go_sem,Int.natCast_zero];first|done|rfl))
   intro j hj;omega
  ·rintro ⟨fr,hp⟩ ⟨n,r13,r0,r1,r12,rh,hi,hP⟩
   dsimp only at r13 r0 r1 r12 rh hi hP
   subst rh
   by_cases hn:n<l.length
   ·have hlt:((n:Int)<(l.length:Int))=True:=eq_true (by omega)
    have hn2:n<m.length:=by omega
    by_cases he:l.getD n 0=m.getD n 0
    ·have t2:(l.getD n 0=m.getD n 0)=True:=eq_true he
     have hsp:=@Nat.succ_ne_zero;repeat' (first|simp (disch:=first|exact dqb|fail) only [go_sem,hsp,r13,r0,r1,r12,hlt,t2]|refine WP_drw ?_|refine cnd_intro (fun hsp=>?_) fun hsp=>?_)
     refine ⟨⟨n+1,by simp,by omega,fun j hj=>?_⟩,by omega⟩
     by_cases e:j=n
     ·subst e;exact he
     ·exact hP j (by omega)
    ·have t2:(l.getD n 0=m.getD n 0)=False:=eq_false he
     have hsp:=@Nat.succ_ne_zero;repeat' (first|simp (disch:=first|exact dqb|fail) only [go_sem,hsp,r13,r0,r1,r12,hlt,t2]|refine WP_drw ?_|refine cnd_intro (fun hsp=>?_) fun hsp=>?_)
     exact fB (decide_eq_false fun e=>he (by rw [e])).symm
   ·have hlt:((n:Int)<(l.length:Int))=False:=eq_false (by omega)
    have hsp:=@Nat.succ_ne_zero;repeat' (first|simp (disch:=first|exact dqb|fail) only [go_sem,hsp,r13,r0,r1,r12,hlt]|refine WP_drw ?_|refine cnd_intro (fun hsp=>?_) fun hsp=>?_)
    refine fB (decide_eq_true ?_).symm
    exact lst_ext hlm fun i hi=>hP i (by omega)
 ·have t1:((l.length:Int)=(m.length:Int))=False:=eq_false (by omega)
  have hsp:=@Nat.succ_ne_zero;repeat' (first|simp (disch:=first|exact dqb|fail) only [go_sem,hsp,t1]|refine WP_drw ?_|refine cnd_intro (fun hsp=>?_) fun hsp=>?_)
  exact fB (decide_eq_false fun e=>hlm (by rw [e])).symm
attribute [go_sem] run_equal
theorem run_eqI {base:Nat} {h:Heap} {a b:AVal} {l m:List Int} (ha:Ints h a l) (hb:Ints h b m):callL prog raw base (.fn 50 [] []) [a,b] h=some (.bool (decide (l=m)),h):=by
 refine callL_run func50 rfl rfl ?_
 have hsp:=@Nat.succ_ne_zero;repeat' (first|simp (disch:=first|exact dqb|fail) only [go_sem,hsp]|refine WP_drw ?_|refine cnd_intro (fun hsp=>?_) fun hsp=>?_)
 exact fB rfl
attribute [go_sem] run_eqI
end Go.AM
namespace Go.AM
open Go.Proofs.Tryz
theorem own_len {α:Type} {E:Enc α} {e t:TypeId} {b:Nat} {H:Heap} {v:AVal} {l:List α} {zs:List AVal} (x:Own E e b H v l) (ht:elS prog t=some (e,E.z,zs)) (hl:l.length<2 ^ 60):lenOpA prog H t v=some (.int .i64 (l.length:Int)):=(x.rows hl).len ht
theorem own_ints {b:Nat} {H:Heap} {v:AVal} {l:List Int} (x:Own encI 3 b H v l) (hs:Small l):Ints H v l:=(x.rows (by have:=hs.1;omega)).ints hs.2
theorem splice_at:∀ (vs c pre:List AVal),c.length=vs.length→splice (pre++c) pre.length vs=pre++vs
 | [],c,pre,h=>by rw [List.eq_nil_of_length_eq_zero h];rfl
 | v :: vs,[],pre,h=>by simp at h
 | v :: vs,x :: c,pre,h=>by
  rw [splice,List.set_append_right _ _ (Nat.le_refl _),Nat.sub_self,List.set_cons_zero]
  have:=splice_at vs c (pre++[v]) (by simpa using h)
  simpa using this
theorem splice_all {vs c:List AVal} (h:c.length=vs.length):splice c 0 vs=vs:=by simpa using splice_at vs c [] h
def OwnE {α:Type} (E:Enc α) (e:TypeId) (b:Nat) (H:Heap) (v:AVal) (l:List α):Prop:=Own E e b H v l ∨ (v=.emp∧l=[])
section
variable {α:Type} {E:Enc α} {e e2 t:TypeId} {b base:Nat} {H H' A:Heap} {v x:AVal} {l:List α} {zs:List AVal}
theorem OwnE.low {b':Nat} (y:OwnE E e b H v l) (hb:b'≤b):OwnE E e b' H v l:=y.imp (fun z=>z.low hb) id
theorem OwnE.one (y:OwnE E e b H v l):One v:=by
 rcases y with y|⟨rfl,_⟩
 ·exact y.one
 ·exact ⟨rfl,rfl,rfl⟩
theorem OwnE.rows (y:OwnE E e b H v l) (hl:l.length<2 ^ 60):Rows E H v l:=by
 rcases y with y|⟨rfl,rfl⟩
 ·exact y.rows hl
 ·exact ⟨hl,.inr (.inl ⟨rfl,rfl⟩)⟩
theorem app_none (hR:Rows E A x []) (ht:elS prog t=some (e,E.z,zs)):appendA prog base A t .emp x=some (.emp,A):=by
 have h1:=hR.lenA
 have h2:=hR.firstN
 simp only [flat_nil,List.length_nil] at h1 h2
 simp only [appendA,ht,h1,h2,List.all_nil,if_true]
end
theorem SpAt.ext {h H:Heap} {id:Nat} {v:AVal} {silk:List Int} {k:Nat} (x:SpAt h id v silk k) (e:Ext h H):SpAt H id v silk k:=by
 obtain ⟨t,rfl⟩:=e
 exact x.app
def SpE (h:Heap) (id:Nat) (v:AVal) (silk:List Int) (k:Nat) (H:Heap):Prop:=Ext (h.set id (spB v silk k)) H
section
variable {h H H':Heap} {id k0 k k':Nat} {v:AVal} {silk:List Int}
theorem SpE.at (x:SpE h id v silk k H) (hS:SpAt h id v silk k0):SpAt H id v silk k:=hS.set.ext x
theorem SpE.refl (hS:SpAt h id v silk k):SpE h id v silk k h:=by
 unfold SpE
 have:=hS.1
 obtain ⟨hid,hg⟩:=List.getElem?_eq_some_iff.1 this
 rw [← hg,List.set_getElem_self]
 exact .refl
theorem SpE.step (x:SpE h id v silk k H) (hid:id<h.length):SpE h id v silk k' (H.set id (spB v silk k')):=by
 have:=Ext.set2 (k:=spB v silk k') x (i:=id) (by simpa using hid)
 unfold SpE
 rwa [List.set_set] at this
theorem SpE.ext (x:SpE h id v silk k H) (e:Ext H H'):SpE h id v silk k H':=Ext.trans x e
theorem SpE.app {T:Heap} (x:SpE h id v silk k H):SpE h id v silk k (H++T):=x.ext (.app .refl)
theorem SpE.len (x:SpE h id v silk k H):h.length≤H.length:=by have:=Ext.len x;simpa using this
theorem SpE.get (x:SpE h id v silk k H) {i:Nat} {b:ABlk} (hi:i ≠ id) (hg:h[i]?=some b):H[i]?=some b:=Ext.get x (by rw [List.getElem?_set_ne (fun e=>hi e.symm)];exact hg)
theorem SpE.low {T:Heap} (x:SpE (h++T) id v silk k H) (hid:id<h.length):SpE h id v silk k H:=by
 unfold SpE at x ⊢
 rw [List.set_append_left _ _ hid] at x
 exact (Ext.app .refl).trans x
end
theorem ownE_ints {b:Nat} {H:Heap} {v:AVal} {l:List Int} (x:OwnE encI 3 b H v l) (hs:Small l):Ints H v l:=(x.rows (by have:=hs.1;omega)).ints hs.2
theorem clone_own {h:Heap} {v:AVal} {l:List Int} (hI:Ints h v l):OwnE encI 3 h.length (h++cloneH v l) (cloneV v h.length l) l:=by
 unfold cloneH cloneV
 by_cases hn:nilB v=true
 ·obtain ⟨rfl,rfl⟩:=hI.nilB_nil hn
  rw [if_pos hn,if_pos hn]
  exact .inl Own.nil
 ·rw [if_neg hn,if_neg hn]
  cases l with
  | nil=>exact .inr ⟨rfl,rfl⟩
  | cons a l =>
   refine .inl (.inr ⟨h.length,0,rfl,?_,Nat.le_refl _,by simp⟩)
   rw [newH_cons,get_eq rfl,rowE,flat_encI]
theorem run_cloneE {base:Nat} {h:Heap} {v:AVal} {l:List Int} (hI:Ints h v l) (hs:Small l):∃ v' H,callL prog raw base (.fn 51 [] []) [v] h=some (v',H)∧Ext h H∧OwnE encI 3 h.length H v' l:=⟨_,_,run_clone hI hs,.app .refl,clone_own hI⟩
end Go.AM
namespace Go.AM
open Go.Proofs.Tryz
def encW:Enc Wnt:=⟨5,fun w=>[.int .i64 w.lg,.int .i64 w.pr,.int .i64 w.off,.int .i64 w.fl,.int .i64 w.jn],fun _=>rfl,by decide⟩
theorem encW_sc:∀ y,(encW.cells y).all AVal.scalar=true:=fun _=>rfl
def encC:Enc Ct:=⟨3,fun c=>[.int .i64 c.w,.int .i64 c.f,.bool c.j],fun _=>rfl,by decide⟩
theorem encC_sc:∀ y,(encC.cells y).all AVal.scalar=true:=fun _=>rfl
def encS:Enc (Int × Int):=⟨2,fun s=>[.int .i64 s.1,.int .i64 s.2],fun _=>rfl,by decide⟩
theorem encS_sc:∀ y,(encS.cells y).all AVal.scalar=true:=fun _=>rfl
def RibAt (h:Heap) (v:AVal) (R:Rib):Prop:=∃ fv wv,v=.agg [.int .i64 R.L,fv,wv]∧Ints h fv R.F∧Rows encW h wv R.W
theorem RibAt.ext {h H:Heap} {v:AVal} {R:Rib} (x:RibAt h v R) (e:Ext h H):RibAt H v R:=by
 obtain ⟨fv,wv,rfl,h1,h2⟩:=x
 exact ⟨fv,wv,rfl,h1.ext e,h2.ext e⟩
abbrev ribB (L:Int) (fv wv:AVal):ABlk:=⟨.cells [.int .i64 L,fv,wv] 35 false false,0⟩
def blB (F:List Int):List AVal:=(List.range 60).map fun u:Nat=>AVal.bool (decide ((u:Int) ∈ F))
theorem blB_len {F:List Int}:(blB F).length=60:=by simp [blB]
theorem blB_at {F:List Int} {u:Nat} (hu:u<60):(blB F)[u]?=some (.bool (decide ((u:Int) ∈ F))):=by
 unfold blB
 rw [List.getElem?_map,List.getElem?_range hu];rfl
theorem blB_set {F:List Int} {u:Nat} (hu:u<60):(blB F).set u (.bool true)=blB (F++[(u:Int)]):=by
 refine List.ext_getElem? fun i=>?_
 rw [List.getElem?_set,blB_len]
 by_cases hi:i<60
 ·rw [blB_at hi,blB_at hi]
  by_cases e:u=i
  ·subst e;rw [if_pos rfl,if_pos hu];simp
  ·rw [if_neg e]
   congr 2
   refine decide_eq_decide.2 ⟨fun q=>List.mem_append.2 (.inl q),fun q=>?_⟩
   rcases List.mem_append.1 q with q|q
   ·exact q
   ·simp at q;omega
 ·rw [List.getElem?_eq_none (by rw [blB_len];omega),List.getElem?_eq_none (by rw [blB_len];omega)]
  split
  ·omega
  ·rfl
def dskB (L:Int) (fv wv:AVal) (F:List Int):ABlk:=⟨.cells (.int .i64 L :: fv :: wv :: blB F) 169 false false,0⟩
def DskAt (h:Heap) (id:Nat) (R:Rib):Prop:=∃ fv wv,h[id]?=some (dskB R.L fv wv R.F)∧Ints h fv R.F∧Rows encW h wv R.W
theorem DskAt.ext {h H:Heap} {id:Nat} {R:Rib} (x:DskAt h id R) (e:Ext h H):DskAt H id R:=by
 obtain ⟨fv,wv,h0,h1,h2⟩:=x
 exact ⟨fv,wv,e.get h0,h1.ext e,h2.ext e⟩
theorem dsk_ld0 {L:Int} {fv wv:AVal} {F:List Int} {z:Nat}:ldB (some (false,z)) (some (dskB L fv wv F)) 0 0=some (.int .i64 L):=by
 unfold dskB;rw [ldB_cell];rfl
theorem dsk_ld2 {L:Int} {fv wv:AVal} {F:List Int} {z:Nat}:ldB (some (false,z)) (some (dskB L fv wv F)) 0 2=some wv:=by
 unfold dskB;rw [ldB_cell];rfl
theorem dsk_ldu {L:Int} {fv wv:AVal} {F:List Int} {z u:Nat} (hu:u<60):ldB (some (false,z)) (some (dskB L fv wv F)) 0 (3+u)=some (.bool (decide ((u:Int) ∈ F))):=by
 unfold dskB;rw [ldB_cell,show 3+u=u+1+1+1 by omega,List.getElem?_cons_succ,List.getElem?_cons_succ,List.getElem?_cons_succ,blB_at hu]
theorem dsk_st {L:Int} {fv wv:AVal} {F:List Int} {base d u:Nat} {K:ABlk→Heap} (hb:base≤d) (hu:u<60):stQ base d (some (dskB L fv wv F)) 0 (3+u) [.bool true] K=some (K (dskB L fv wv (F++[(u:Int)]))):=by
 unfold dskB
 rw [stQ_own hb (by simp [blB_len];omega) rfl]
 congr 2
 simp only [splice]
 rw [show 3+u=u+1+1+1 by omega,List.set_cons_succ,List.set_cons_succ,List.set_cons_succ,blB_set hu]
theorem wnt_ad {h:Heap} {wv:AVal} {W:List Wnt} {i:Nat} (hR:Rows encW h wv W) (hi:i<W.length):indexAddrA prog 33 wv (.int .i64 (i:Int))=some (elAdr wv encW.z i 0):=by
 have:=hR.addr (P:=prog) (i:=(i:Int)) Fc.el33 Fc.ar33 (by omega) (by omega)
 rwa [Int.toNat_natCast] at this
theorem wnt_ld {h:Heap} {wv:AVal} {W:List Wnt} {i:Nat} {w:Wnt} (hR:Rows encW h wv W) (hx:W[i]?=some w):loadP prog h 50 (elAdr wv encW.z i 0)=some (.agg [.int .i64 w.lg,.int .i64 w.pr,.int .i64 w.off,.int .i64 w.fl,.int .i64 w.jn]):=hR.load (P:=prog) Fc.ty50 hx
theorem wnt_f0 {h:Heap} {wv:AVal} {W:List Wnt} {i:Nat} (hR:Rows encW h wv W) (hi:i<W.length):fieldAddrA prog 50 (elAdr wv encW.z i 0) 0=some (elAdr wv encW.z i 0):=elAdr_field (P:=prog) (i:=i) (o:=0) (off:=0) (q:=false) (n:=1) hR hi (by kernel_rfl) (by decide)
theorem wnt_l0 {h:Heap} {wv:AVal} {W:List Wnt} {i:Nat} {w:Wnt} (hR:Rows encW h wv W) (hx:W[i]?=some w):loadP prog h 3 (elAdr wv encW.z i 0)=some (.int .i64 w.lg):=hR.cell (P:=prog) Fc.ty3 hx (o:=0) (a:=.int .i64 w.lg) rfl
end Go.AM
namespace Go.AM
open Go.Proofs.Tryz
def ixI (l:List Int) (x:Int):Int:=if x ∈ l then (l.idxOf x:Nat) else -1
theorem ixI_ge {l:List Int} {x:Int}:(ixI l x ≥ 0)=(x ∈ l):=by
 unfold ixI
 by_cases h:x ∈ l
 ·rw [if_pos h];exact propext ⟨fun _=>h,fun _=>by omega⟩
 ·rw [if_neg h];exact propext ⟨fun q=>by omega,fun q=>absurd q h⟩
theorem ixI_at:∀ {l:List Int} {x:Int} {n:Nat},n<l.length→l.getD n 0=x→(∀ j,j<n→l.getD j 0 ≠ x)→ixI l x=(n:Int):=by
 intro l x n hn he hj
 have hm:x ∈ l:=by
  rw [← he,List.getD_eq_getElem?_getD,List.getElem?_eq_getElem hn]
  exact List.getElem_mem hn
 rw [ixI,if_pos hm]
 have h2:=List.getElem_idxOf (List.idxOf_lt_length_of_mem hm)
 have h3:=List.idxOf_lt_length_of_mem hm
 have g:∀ k,(hk:k<l.length)→l.getD k 0=l[k]:=fun k hk=>by rw [List.getD_eq_getElem?_getD,List.getElem?_eq_getElem hk];rfl
 have a1:¬ l.idxOf x<n:=fun q=>hj _ q (by rw [g _ h3];exact h2)
 have a2:¬ n<l.idxOf x:=fun q=>by
  have:=List.not_of_lt_findIdx (p:=(· == x)) (xs:=l) (i:=n) q
  rw [g _ hn] at he
  simp [he] at this
 omega
theorem ixI_no {l:List Int} {x:Int} (hj:∀ j,j<l.length→l.getD j 0 ≠ x):ixI l x=-1:=by
 refine if_neg fun q=>?_
 obtain ⟨i,hi,e⟩:=List.getElem_of_mem q
 exact hj i hi (by rw [List.getD_eq_getElem?_getD,List.getElem?_eq_getElem hi];exact e)
theorem run_index {base:Nat} {h:Heap} {a:AVal} {l:List Int} {x:Int} (ha:Ints h a l):callL prog raw base (.fn 112 [] []) [a,.int .i64 x] h=some (.int .i64 (ixI l x),h):=by
 have hl:=ha.1.1
 refine callL_run func112 rfl rfl ?_
 have hsp:=@Nat.succ_ne_zero;repeat' (first|simp (disch:=first|exact dqb|fail) only [go_sem,hsp]|refine WP_drw ?_|refine cnd_intro (fun hsp=>?_) fun hsp=>?_)
 refine WP_loop (fun σ=>∃ n:Nat,σ.fr 8=.int .i64 (n:Int)∧σ.fr 0=a∧σ.fr 1=.int .i64 x∧σ.fr 7=.int .i64 (l.length:Int)∧σ.h=h∧n≤l.length∧(∀ j,j<n→l.getD j 0 ≠ x)) (fun σ=>match σ.fr 8 with|.int _ x=>(((l.length:Nat):Int)-x).toNat|_=>0) ?_ ?_
 ·refine ⟨0,?_,?_,?_,?_,?_,by omega,?_⟩
  iterate 5 focus (first|rfl|(simp (disch:=first|exact dqb|fail) only [go_sem,Int.natCast_zero];first|done|rfl))
  intro j hj;omega
 ·rintro ⟨fr,hp⟩ ⟨n,r8,r0,r1,r7,rh,hi,hP⟩
  dsimp only at r8 r0 r1 r7 rh hi hP
  subst rh
  by_cases hn:n<l.length
  ·have hlt:((n:Int)<(l.length:Int))=True:=eq_true (by omega)
   by_cases he:x=l.getD n 0
   ·have t2:(x=l.getD n 0)=True:=eq_true he
    have hsp:=@Nat.succ_ne_zero;repeat' (first|simp (disch:=first|exact dqb|fail) only [go_sem,hsp,r8,r0,r1,r7,hlt,t2]|refine WP_drw ?_|refine cnd_intro (fun hsp=>?_) fun hsp=>?_)
    exact fI (ixI_at hn he.symm hP).symm
   ·have t2:(x=l.getD n 0)=False:=eq_false he
    have hsp:=@Nat.succ_ne_zero;repeat' (first|simp (disch:=first|exact dqb|fail) only [go_sem,hsp,r8,r0,r1,r7,hlt,t2]|refine WP_drw ?_|refine cnd_intro (fun hsp=>?_) fun hsp=>?_)
    refine ⟨⟨n+1,by simp,by omega,fun j hj=>?_⟩,by omega⟩
    by_cases e:j=n
    ·subst e;exact fun q=>he q.symm
    ·exact hP j (by omega)
  ·have hlt:((n:Int)<(l.length:Int))=False:=eq_false (by omega)
   have hsp:=@Nat.succ_ne_zero;repeat' (first|simp (disch:=first|exact dqb|fail) only [go_sem,hsp,r8,r0,r1,r7,hlt]|refine WP_drw ?_|refine cnd_intro (fun hsp=>?_) fun hsp=>?_)
   exact fI (ixI_no fun j hj=>hP j (by omega)).symm
theorem run_contains {base:Nat} {h:Heap} {a:AVal} {l:List Int} {x:Int} (ha:Ints h a l):callL prog raw base (.fn 41 [] []) [a,.int .i64 x] h=some (.bool (decide (x ∈ l)),h):=by
 have e:=fun base=>@run_index base h a l x ha
 have e2:=@ixI_ge l x
 refine callL_run func41 rfl rfl ?_
 have hsp:=@Nat.succ_ne_zero;repeat' (first|simp (disch:=first|exact dqb|fail) only [go_sem,hsp,e,e2]|refine WP_drw ?_|refine cnd_intro (fun hsp=>?_) fun hsp=>?_)
 exact fB rfl
end Go.AM
