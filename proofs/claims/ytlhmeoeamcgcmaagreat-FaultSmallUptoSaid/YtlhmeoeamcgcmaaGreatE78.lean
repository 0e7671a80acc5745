/-
  Slices of one's own that are cleared, or grow out of nothing; a loom with one sight more, or none.
-/
import Derived.Test.YtlhmeoeamcgcmaaGreatE46
import Derived.Test.YtlhmeoeamcgcmaaGreatE58
import Derived.Test.YtlhmeoeamcgcmaaGreatE67
set_option linter.unusedSimpArgs false
set_option linter.unusedVariables false
namespace Go.AM
open Go.Proofs.Tryz
section
variable {α β:Type} {E:Enc α} {E2:Enc β} {e e2 t:TypeId} {b base:Nat} {H G:Heap} {v w x:AVal} {l m:List α} {l2:List β} {zs:List AVal}
theorem OwnE.appendRX (hO:OwnE E e b H v l) (hR:Rows E H x m) (ht:elS prog t=some (e,E.z,zs)) (hs:∀ y,(E.cells y).all AVal.scalar=true) (hb:base≤b) (hbh:b≤H.length) (hm:0<m.length) (hsz:l.length+m.length<2147483648) :
  ∃ v' h',appendA prog base H t v x=some (v',h')∧Own E e b h' v' (l++m)∧H.length≤h'.length∧(∀ G,G.length≤b→Ext G H→Ext G h')∧One v'∧KeepO E e H h':=by
 rcases hO with hO|⟨rfl,rfl⟩
 ·exact hO.appendRX hR ht hs hb hbh hm hsz
 ·refine ⟨.slice (some ⟨H.length,0,0⟩) m.length m.length,H++[rowE E e m 0],?_,.inr ⟨H.length,0,rfl,get_eq rfl,hbh,by simpa using hm⟩,by simp,fun G _ g=>.app g,⟨rfl,rfl,rfl⟩,fun i y g _=>get_app g⟩
  simp only [appendA,ht,hR.lenA,hR.firstN,flat_scalar hs,if_true]
  rw [if_neg (by omega),if_pos (show m.length<2 ^ 31 by simp at hsz;omega)]
  rfl
theorem clear_own {y:α} (hO:OwnE E e b H v l) (ht:elS prog t=some (e,E.z,E.cells y)) (hs:∀ y,(E.cells y).all AVal.scalar=true) (hb:base≤b) :
  ∃ H',clearA prog base H t v=some (.tuple [],H')∧H'.length=H.length∧(∀ G,G.length≤b→Ext G H→Ext G H')∧(∀ w l2,OwnE E e b H w l2→∃ l3,OwnE E e b H' w l3)∧KeepO E e H H':=by
 rcases hO with (⟨rfl,rfl⟩|⟨id,ver,rfl,h1,h2,h3⟩)|⟨rfl,rfl⟩
 ·exact ⟨H,by simp [clearA,ht],rfl,fun G _ g=>g,fun w l2 q=>⟨l2,q⟩,fun i y g _=>g⟩
 ·obtain ⟨n,hn⟩:∃ n,l.length=n+1:=⟨l.length-1,by omega⟩
  have hc:(flat E l).length=(repCells (E.cells y) (n+1)).length:=by rw [repCells_length,flat_len,hn,E.len,Nat.mul_comm]
  refine ⟨H.set id (rowE E e (List.replicate (n+1) y) ver),?_,by simp,fun G hG g=>g.set (show G.length≤id by omega),fun w l2 q=>?_,fun i z g hz=>?_⟩
  ·rw [hn]
   simp only [clearA,ht,storeN,h1,rowE]
   rw [if_pos ⟨trivial,by rw [hc];simp,by rw [rep_flat];exact flat_scalar hs _,.inl (by omega)⟩,splice_all hc,rep_flat]
  ·rcases q with (⟨rfl,rfl⟩|⟨id2,ver2,rfl,g1,g2,g3⟩)|⟨rfl,rfl⟩
   ·exact ⟨[],.inl Own.nil⟩
   ·by_cases c:id2=id
    ·subst c
     rw [h1] at g1
     have g1':=Option.some.inj g1
     have hv:ver=ver2:=congrArg ABlk.ver g1'
     have hcl:flat E l=flat E l2:=by
      have:=congrArg ABlk.body g1'
      simp only [rowE] at this
      exact ABody.cells.inj this |>.1
     have hll:l2.length=n+1:=by
      have:=congrArg List.length hcl
      rw [flat_len,flat_len] at this
      rw [← hn]
      exact (Nat.eq_of_mul_eq_mul_right E.pos this).symm
     refine ⟨List.replicate (n+1) y,.inl (.inr ⟨id2,ver,by rw [hv,hll,List.length_replicate],by rw [List.getElem?_set_self (lt_of_get h1)],g2,by simp⟩)⟩
    ·exact ⟨l2,.inl (.inr ⟨id2,ver2,rfl,by rw [List.getElem?_set_ne (fun q=>c q.symm)];exact g1,g2,g3⟩)⟩
   ·exact ⟨[],.inr ⟨rfl,rfl⟩⟩
  ·have hne:id ≠ i:=by
    rintro rfl
    rw [h1] at g
    exact hz l ver (Option.some.inj g).symm
   rw [List.getElem?_set_ne hne]
   exact g
 ·exact ⟨H,by simp [clearA,ht],rfl,fun G _ g=>g,fun w l2 q=>⟨l2,q⟩,fun i y g _=>g⟩
end
def lom0:Lom:=⟨0,0,[],[]⟩
def seeL (L:Lom) (s:Sgt):Lom:=if seeM L s=0 then moreL L s else lom0
theorem seeL_len {L:Lom} {s:Sgt} (hp:L.ps.length≤9) (hs:L.ss.length≤14):(seeL L s).ps.length≤1000∧(seeL L s).ss.length≤1000∧∀ p ∈ (seeL L s).ps,p ∈ L.ps:=by
 unfold seeL
 split
 ·exact ⟨show L.ps.length≤1000 by omega,by simp [moreL];omega,fun p h=>h⟩
 ·exact ⟨by simp [lom0],by simp [lom0],fun p h=>by simp [lom0] at h⟩
theorem run_see2 {base:Nat} {h:Heap} {v:AVal} {L:Lom} {s:Sgt} (hb:base≤h.length) (hL:LomAt h v L) (hok:LomOk L) :
  Ret prog raw base (.fn 46 [] []) [v,.agg [.int .i64 s.rib,.int .i64 s.lo,.int .i64 s.hi,.bool s.bad]] h (fun w H=>Ext h H∧∃ pv sv,w=.tuple [lomV (seeL L s).R (seeL L s).T pv sv,.int .i64 (seeM L s)]∧OwnQ h.length H pv (seeL L s).ps∧Own encS 56 h.length H sv (seeL L s).ss):=by
 refine (run_see hb hL hok).mono fun w H=>?_
 rintro ⟨x,R,T,pv,sv,rfl,a,c⟩
 unfold seeL
 by_cases q:seeM L s=0
 ·obtain ⟨rfl,rfl,a3,a4⟩:=a q
  rw [if_pos q]
  exact ⟨x,pv,sv,rfl,a3,a4⟩
 ·obtain ⟨rfl,rfl,rfl,rfl⟩:=c q
  rw [if_neg q]
  exact ⟨x,_,_,rfl,OwnQ.nil,Own.nil⟩
end Go.AM
