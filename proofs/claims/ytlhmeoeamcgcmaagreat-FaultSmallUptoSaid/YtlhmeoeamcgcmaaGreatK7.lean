/-
  One's own slices that grow: what is yielded, and the heap behind it, said outright.
-/
import Derived.Test.YtlhmeoeamcgcmaaGreatA8
set_option linter.unusedSimpArgs false
set_option linter.unusedVariables false
namespace Go.AM
section
variable {α β:Type} {E:Enc α} {E2:Enc β} {P:Program} {base b b2 k:Nat} {h H:Heap} {v w x:AVal} {l m:List α} {l2:List β} {t e e2:TypeId} {zs:List AVal}
def snV (h:Heap) (v:AVal) (k:Nat):AVal:=match v with
 | .slice (some r) n _=>.slice (some ⟨r.id,r.ver+1,0⟩) (n+k) (n+k)
 | _=>.slice (some ⟨h.length,0,0⟩) k k
def snH (E:Enc α) (e:TypeId) (h:Heap) (v:AVal) (l m:List α):Heap:=match v with
 | .slice (some r) _ _=>h.set r.id (rowE E e (l++m) (r.ver+1))
 | _=>h++[rowE E e m 0]
def Asun (v w:AVal):Prop:=∀ r n c s k d,v=.slice (some r) n c→w=.slice (some s) k d→r.id ≠ s.id
theorem Asun.symm (x:Asun v w):Asun w v:=fun r n c s k d a b q=>x s k d r n c b a q.symm
theorem Asun.nil:Asun v (.slice none 0 0):=fun _ _ _ _ _ _ _ q=>by cases q
theorem snV_one:One (snV h v k):=by unfold snV;split<;>exact ⟨rfl,rfl,rfl⟩
theorem app_sn (hO:Own E e b h v l) (ht:elS P t=some (e,E.z,zs)) (hs:∀ y,(E.cells y).all AVal.scalar=true) (hb:base≤b) (hm:0<m.length) (hsz:l.length+m.length<2147483648)
  (hx1:lenA E.z x=some m.length) (hx2:firstN h E.z m.length x=some (flat E m)):appendA P base h t v x=some (snV h v m.length,snH E e h v l m):=by
 rcases hO with ⟨rfl,rfl⟩|⟨id,ver,rfl,h1,h2,h3⟩
 ·simp only [appendA,ht,hx1,hx2,flat_scalar hs,if_true]
  rw [if_neg (by omega),if_pos (show m.length<2 ^ 31 by simp at hsz;omega)]
  rfl
 ·simp only [appendA,ht,hx1,hx2,flat_scalar hs,if_true]
  rw [if_neg (by omega),h1]
  simp only [rowE,flat_len]
  rw [if_pos ⟨trivial,trivial,trivial,trivial,show l.length+m.length<2 ^ 31 from hsz,h3,.inl (by omega)⟩]
  rw [List.take_of_length_le (by rw [flat_len];exact Nat.le_refl _),← flat_app]
  rfl
theorem app_sn1 {y:α} {a:AVal} (hO:Own E e b h v l) (hz:E.z=1) (hy:E.cells y=[a]) (ht:elS P t=some (e,1,zs)) (hs:∀ y,(E.cells y).all AVal.scalar=true) (hb:base≤b) (hsz:l.length+1<2147483648) :
  appendA P base h t v (.vals [a])=some (snV h v 1,snH E e h v l [y]):=by
 refine app_sn (m:=[y]) hO (by rw [hz];exact ht) hs hb (by simp) (by simpa using hsz) ?_ ?_
 ·rw [hz];rfl
 ·rw [hz];simp [firstN,flat,hy]
theorem Own.sn (hO:Own E e b h v l) (hbh:b≤h.length) (hm:0<m.length):Own E e b (snH E e h v l m) (snV h v m.length) (l++m):=by
 rcases hO with ⟨rfl,rfl⟩|⟨id,ver,rfl,h1,h2,h3⟩
 ·exact .inr ⟨h.length,0,by simp [snV],get_eq rfl,hbh,by simpa using hm⟩
 ·exact .inr ⟨id,ver+1,by simp [snV],by unfold snH;simp only;rw [List.getElem?_set_self (lt_of_get h1)],h2,by simp;omega⟩
theorem Own.sn_ext (hO:Own E e b h v l) (hG:H.length≤b) (g:Ext H h):Ext H (snH E e h v l m):=by
 rcases hO with ⟨rfl,rfl⟩|⟨id,ver,rfl,h1,h2,h3⟩
 ·exact .app g
 ·exact g.set (show H.length≤id by omega)
theorem Own.sn_oth (hO:Own E2 e2 b2 h w l2) (hA:Asun v w):Own E2 e2 b2 (snH E e h v l m) w l2:=by
 unfold snH
 split
 ·rename_i r n c
  rcases hO with ⟨rfl,rfl⟩|⟨id,ver,rfl,h1,h2,h3⟩
  ·exact .nil
  ·exact .inr ⟨id,ver,rfl,by rw [List.getElem?_set_ne (hA _ _ _ _ _ _ rfl rfl)];exact h1,h2,h3⟩
 ·exact hO.app
theorem Own.sn_asun (hO:Own E2 e2 b2 h w l2) (hA:Asun v w):Asun (snV h v k) w:=by
 intro r n c s i d q1 q2
 unfold snV at q1
 split at q1
 ·rename_i r' n' c'
  simp only [AVal.slice.injEq,Option.some.injEq] at q1
  obtain ⟨q1,_,_⟩:=q1
  rw [← q1]
  exact hA r' n' c' _ _ _ rfl q2
 ·simp only [AVal.slice.injEq,Option.some.injEq] at q1
  obtain ⟨rfl,_,_⟩:=q1
  rcases hO with ⟨rfl,rfl⟩|⟨id,ver,rfl,h1,h2,h3⟩
  ·cases q2
  ·simp only [AVal.slice.injEq,Option.some.injEq] at q2
   obtain ⟨rfl,_,_⟩:=q2
   have:=lt_of_get h1
   show h.length ≠ id
   omega
end
theorem WP_cmeet {P:Program} {raw:FuncId→Bool} {base:Nat} {c:Code} {id:Nat} {FR:AFrame} {H:Heap} {Q:AExit→St→Prop} (mod:List (Nat × Nat)) (a N:Nat) (haN:a≤N) (J:Heap→Nat→AFrame→Heap→Prop) (X:AFrame→Heap→Prop) (h0:J H a FR H)
  (step:∀ i fr h,a≤i→i<N→Agree mod fr FR→J H i fr h→WP P raw base c ⟨fr,h⟩ (thenQ (fun s'=>Agree mod s'.fr FR∧J H (i+1) s'.fr s'.h) (inBlockQ id (thenQ (fun s'=>Agree mod s'.fr FR∧X s'.fr s'.h) Q))))
  (last:∀ fr h,Agree mod fr FR→J H N fr h→WP P raw base c ⟨fr,h⟩ (thenQ (fun _=>False) (inBlockQ id (thenQ (fun s'=>Agree mod s'.fr FR∧X s'.fr s'.h) Q))))
  (k:∀ fr h,Agree mod fr FR→X fr h→Q .normal ⟨fr,h⟩):WP P raw base (.loop c) ⟨FR,H⟩ (inBlockQ id Q):=by
 have key:∀ e s',inBlockQ id (thenQ (fun s'=>Agree mod s'.fr FR∧X s'.fr s'.h) Q) e s'→inBlockQ id Q e s':=fun e s' hq=>by
  cases e with
  | normal=>exact k _ _ hq.1 hq.2
  | ret=>exact hq
  | exit id' =>
   simp only [inBlockQ] at hq ⊢
   split
   ·rename_i c;rw [if_pos c] at hq;exact k _ _ hq.1 hq.2
   ·rename_i c;rw [if_neg c] at hq;exact hq
 refine WP_count mod a N haN J h0 (fun i fr h h1 h2 h3 h4=>?_) fun fr h h3 h4=>?_
 ·obtain ⟨e,s',h5,h6⟩:=step i fr h h1 h2 h3 h4
  refine ⟨e,s',h5,?_⟩
  cases e with
  | normal=>exact h6
  | ret=>exact key .ret s' h6
  | exit id'=>exact key (.exit id') s' h6
 ·obtain ⟨e,s',h5,h6⟩:=last fr h h3 h4
  refine ⟨e,s',h5,?_⟩
  cases e with
  | normal=>exact h6
  | ret=>exact key .ret s' h6
  | exit id'=>exact key (.exit id') s' h6
end Go.AM
