/-
  Ranges over functions, by what an iterator yields.
-/
import Derived.Test.YtikgghhceolaeaaGreatU7
set_option linter.unusedSimpArgs false
set_option linter.unusedVariables false
namespace Go.AM
section
variable {P:Program} {raw:FuncId→Bool} {base:Nat}
def Yields (P:Program) (raw:FuncId→Bool) (base L:Nat) (g:AVal) (N:Nat) (xs:Nat→List AVal) (I:Nat→Heap→Prop):Prop :=
 ∀ (J:Nat→Heap→Prop) (S:Heap→Prop) (H0:Heap),L+1=H0.length→(∀ j H,J j H→I j H∧L+1≤H.length)→(∀ j H T,J j H→J j (H++T)) →
  (∀ j H,j<N→J j H→∃ b H',callL P raw base (.yld L) (xs j) H=some (.bool b,H')∧(∀ i x,L+1≤i→H[i]?=some x→H'[i]?=some x)∧(b=true→J (j+1) H')∧(b=false→S H')) →
  J 0 H0→∃ v H',callL P raw base g [.yld L] H0=some (v,H')∧(J N H' ∨ S H')
theorem isNone_jump {e:AExit}:(jumpOf e).isNone=true ↔ e=.normal:=by cases e<;>simp [jumpOf]
end
theorem putAll_cons {fr:AFrame} {t:Tmp} {ts:List Tmp} {v:AVal} {vs:List AVal}:putAll fr (t :: ts) (v :: vs)=putAll (put fr (some t) v) ts vs:=rfl
theorem putAll_nil {fr:AFrame} {vs:List AVal}:putAll fr [] vs=fr:=by cases vs<;>rfl
attribute [go_sem] putAll_cons putAll_nil
end Go.AM
namespace Go.AM
def slcV (v:AVal) (lo hi:Nat):AVal:=match v with|.slice a _ k=>.slice (a.map (·.add lo)) (hi-lo) (k-lo)|v=>v
section
variable {P:Program} {h:Heap} {v:AVal} {l:List Int} {t e:TypeId} {zs:List AVal} {lo hi:Nat}
theorem Ints.slc (hI:Ints h v l) (h1:lo≤hi) (h2:hi≤l.length):Ints h (slcV v lo hi) ((l.take hi).drop lo):=by
 have hlen:((l.take hi).drop lo).length=hi-lo:=by simp;omega
 have hb:((l.take hi).drop lo).length<2 ^ 60:=by
  rw [hlen]
  have:=hI.1.1
  omega
 refine ⟨⟨hb,fun x hx=>hI.1.2 x (List.mem_of_mem_take (List.mem_of_mem_drop hx))⟩,?_⟩
 rcases hI.2 with ⟨rfl,rfl⟩|⟨rfl,rfl⟩|⟨r,k,c,e,row,ro,rfl,h3,h4,h5,h6⟩
 ·simp only [List.length_nil] at h2
  have:hi=0:=by omega
  subst this
  have:lo=0:=by omega
  subst this
  exact .inl ⟨rfl,rfl⟩
 ·exact .inr (.inl ⟨rfl,by simp⟩)
 ·refine .inr (.inr ⟨r.add lo,k-lo,c,e,row,ro,?_,h3,?_,?_,?_⟩)
  ·simp only [slcV,Option.map_some,hlen]
  ·simp only [ARef.add,hlen]
   have:ints ((l.take hi).drop lo)=((ints l).take hi).drop lo:=by simp [ints,List.map_take,List.map_drop]
   rw [this,← h4,List.take_take,Nat.min_eq_left h2,List.drop_take,List.drop_drop]
  ·simp only [ARef.add,hlen];omega
  ·rw [hlen];omega
theorem boundI {n:Int} {hi:Nat} (h0:0≤n) (h1:n≤hi):boundA (.int .i64 n) hi=some n.toNat:=by simp [boundA,h0,h1]
theorem sl_hi (ht:elS P t=some (e,1,zs)) (ha:arT P t=none) {n:Int} (h0:0≤n) (hI:Ints h v l) (h1:n≤l.length):sliceA P t v none (some (.int .i64 n)) none=some (slcV v 0 n.toNat):=by
 rcases hI.2 with ⟨rfl,rfl⟩|⟨rfl,rfl⟩|⟨r,k,c,e,row,ro,rfl,h3,h4,h5,h6⟩
 ·simp only [List.length_nil] at h1
  simp only [sliceA,ha,ht,optB,boundI h0 h1]
  simp [slcV]
 ·simp only [List.length_nil] at h1
  simp only [sliceA,ha,ht,optB,boundI h0 h1]
  simp [slcV]
 ·simp only [sliceA,ha,ht,optB,boundI h0 (show n≤(k:Int) by omega)]
  simp [slcV]
theorem sl_lo (ht:elS P t=some (e,1,zs)) (ha:arT P t=none) {m:Int} (h0:0≤m) (hI:Ints h v l) (h2:m≤l.length):sliceA P t v (some (.int .i64 m)) none none=some (slcV v m.toNat l.length):=by
 rcases hI.2 with ⟨rfl,rfl⟩|⟨rfl,rfl⟩|⟨r,k,c,e,row,ro,rfl,h3,h4,h5,h6⟩
 ·simp only [List.length_nil] at h2
  simp only [sliceA,ha,ht,optB,boundI h0 h2]
  simp [slcV]
 ·simp only [List.length_nil] at h2
  simp only [sliceA,ha,ht,optB,boundI h0 h2]
  simp [slcV]
 ·simp only [sliceA,ha,ht,optB,boundI h0 h2]
  simp [slcV]
end
theorem slcV_one {h:Heap} {v:AVal} {l:List Int} (hI:Ints h v l) {lo hi:Nat}:One (slcV v lo hi):=by
 rcases hI.2 with ⟨rfl,rfl⟩|⟨rfl,rfl⟩|⟨r,k,c,e,row,ro,rfl,_⟩<;>exact ⟨rfl,rfl,rfl⟩
end Go.AM
