/-
  Own slices of several kinds beside each other; looms that are right.
-/
import Derived.Test.YtlhmeoeamcgcmaaGreatG4
set_option linter.unusedSimpArgs false
set_option linter.unusedVariables false
namespace Go.AM
open Go.Proofs.Tryz
theorem Own.appendX {α:Type} {E:Enc α} {P:Program} {base b:Nat} {h:Heap} {v x:AVal} {l m:List α} {t e:TypeId} {zs:List AVal} (hO:Own E e b h v l) (ht:elS P t=some (e,E.z,zs)) (hs:∀ y,(E.cells y).all AVal.scalar=true) (hb:base≤b) (hbh:b≤h.length) (hm:0<m.length) (hsz:l.length+m.length<2147483648)
  (hx1:lenA E.z x=some m.length) (hx2:firstN h E.z m.length x=some (flat E m)) :
  ∃ v' h',appendA P base h t v x=some (v',h')∧Own E e b h' v' (l++m)∧h.length≤h'.length∧(∀ G,G.length≤b→Ext G h→Ext G h')∧One v'∧∀ (i:Nat) (y:ABlk),h[i]?=some y→(∀ l' ver,y ≠ rowE E e l' ver)→h'[i]?=some y:=by
 rcases hO with ⟨rfl,rfl⟩|⟨id,ver,rfl,h1,h2,h3⟩
 ·refine ⟨.slice (some ⟨h.length,0,0⟩) m.length m.length,h++[rowE E e m 0],?_,.inr ⟨h.length,0,rfl,get_eq rfl,hbh,by simpa using hm⟩,by simp,fun G _ g=>.app g,⟨rfl,rfl,rfl⟩,fun i y g _=>get_app g⟩
  simp only [appendA,ht,hx1,hx2,flat_scalar hs,if_true]
  rw [if_neg (by omega),if_pos (show m.length<2 ^ 31 by simp at hsz;omega)]
  rfl
 ·refine ⟨.slice (some ⟨id,ver+1,0⟩) (l++m).length (l++m).length,h.set id (rowE E e (l++m) (ver+1)),?_,.inr ⟨id,ver+1,rfl,by rw [List.getElem?_set_self (lt_of_get h1)],h2,by simp;omega⟩,by simp,fun G hG g=>g.set (by omega),⟨rfl,rfl,rfl⟩,fun i y g hy=>?_⟩
  ·simp only [appendA,ht,hx1,hx2,flat_scalar hs,if_true]
   rw [if_neg (by omega),h1]
   simp only [rowE,flat_len]
   rw [if_pos ⟨trivial,trivial,trivial,trivial,show l.length+m.length<2 ^ 31 from hsz,h3,.inl (by omega)⟩]
   rw [List.take_of_length_le (by rw [flat_len];exact Nat.le_refl _),← flat_app,List.length_append]
  ·have hne:id ≠ i:=by
    rintro rfl
    rw [h1] at g
    exact hy l ver (Option.some.inj g).symm
   rw [List.getElem?_set_ne hne]
   exact g
theorem Own.appendRX {α:Type} {E:Enc α} {P:Program} {base b:Nat} {h:Heap} {v x:AVal} {l m:List α} {t e:TypeId} {zs:List AVal} (hO:Own E e b h v l) (hR:Rows E h x m) (ht:elS P t=some (e,E.z,zs)) (hs:∀ y,(E.cells y).all AVal.scalar=true) (hb:base≤b) (hbh:b≤h.length) (hm:0<m.length) (hsz:l.length+m.length<2147483648) :
  ∃ v' h',appendA P base h t v x=some (v',h')∧Own E e b h' v' (l++m)∧h.length≤h'.length∧(∀ G,G.length≤b→Ext G h→Ext G h')∧One v'∧∀ (i:Nat) (y:ABlk),h[i]?=some y→(∀ l' ver,y ≠ rowE E e l' ver)→h'[i]?=some y :=
 hO.appendX ht hs hb hbh hm hsz hR.lenA hR.firstN
theorem Own.append1X {α:Type} {E:Enc α} {P:Program} {base b:Nat} {h:Heap} {v:AVal} {l:List α} {t e:TypeId} {zs:List AVal} {y:α} {a:AVal} (hO:Own E e b h v l) (hz:E.z=1) (hy:E.cells y=[a]) (ht:elS P t=some (e,1,zs)) (hs:∀ y,(E.cells y).all AVal.scalar=true) (hb:base≤b) (hbh:b≤h.length) (hsz:l.length+1<2147483648) :
  ∃ v' h',appendA P base h t v (.vals [a])=some (v',h')∧Own E e b h' v' (l++[y])∧h.length≤h'.length∧(∀ G,G.length≤b→Ext G h→Ext G h')∧One v'∧∀ (i:Nat) (y:ABlk),h[i]?=some y→(∀ l' ver,y ≠ rowE E e l' ver)→h'[i]?=some y:=by
 refine hO.appendX (m:=[y]) (by rw [hz];exact ht) hs hb hbh (by simp) (by simpa using hsz) ?_ ?_
 ·rw [hz];rfl
 ·rw [hz];simp [firstN,flat,hy]
section
variable {α β:Type} {E:Enc α} {E2:Enc β} {e e2 b b2:Nat} {h h':Heap}
def KeepO (E:Enc α) (e:TypeId) (h h':Heap):Prop:=∀ (i:Nat) (y:ABlk),h[i]?=some y→(∀ l' ver,y ≠ rowE E e l' ver)→h'[i]?=some y
theorem KeepO.box {c:List AVal} {t:TypeId} {ro:Bool} {u i:Nat} (k:KeepO E e h h') (hg:h[i]?=some ⟨.cells c t false ro,u⟩):h'[i]?=some ⟨.cells c t false ro,u⟩:=k i _ hg fun l' ver q=>by simp [rowE] at q
theorem KeepO.own {v:AVal} {l:List β} (k:KeepO E e h h') (x:Own E2 e2 b2 h v l) (hne:e2 ≠ e):Own E2 e2 b2 h' v l:=by
 rcases x with q|⟨id,ver,e1,g,e3,e4⟩
 ·exact .inl q
 ·exact .inr ⟨id,ver,e1,k id _ g fun l' ver' q=>by simp [rowE] at q;exact hne q.1.2,e3,e4⟩
end
def OwnP (b:Nat) (H:Heap) (pv:AVal) (ps:List Prt):Prop:=∃ vs:List PrtV,Own encP 81 b H pv vs∧vs.length=ps.length∧∀ (i:Nat) x p,vs[i]?=some x→ps[i]?=some p→Own encI 3 b H x.v p.rib∧x.each=p.each∧x.ph=p.ph∧x.wv=p.wv
section
variable {b:Nat} {H H':Heap} {pv:AVal} {ps:List Prt}
end
def prB (w:AVal) (each ph:Int) (wv:Bool):ABlk:=⟨.cells [w,.int .i64 each,.int .i64 ph,.bool wv] 81 false false,0⟩
theorem rise_pair {l:List Int} (h:riseB l=true):l.Pairwise (·<·):=by
 have h:=of_decide_eq_true h
 rw [List.pairwise_iff_getElem]
 intro i j hi hj hij
 obtain ⟨d,rfl⟩:∃ d,j=i+1+d:=⟨j-(i+1),by omega⟩
 clear hij
 have st:∀ k,(hk:k+1<l.length)→l[k]<l[k+1]:=fun k hk=>by
  have:=h (k+1) hk (by omega)
  rwa [Nat.add_sub_cancel,getD_at (show k<l.length by omega),getD_at hk] at this
 induction d with
 | zero=>exact st i hj
 | succ d ih=>exact Int.lt_trans (ih (by omega) st) (st (i+1+d) hj)
end Go.AM
