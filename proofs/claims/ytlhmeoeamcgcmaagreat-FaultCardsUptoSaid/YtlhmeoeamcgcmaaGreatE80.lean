/-
  FaultSpots, walked.
-/
import Derived.Test.YtlhmeoeamcgcmaaGreatE58
import Derived.Test.YtlhmeoeamcgcmaaGreatE55
import Derived.Test.YtlhmeoeamcgcmaaGreatE44
import Derived.Test.YtlhmeoeamcgcmaaGreatG5
import Derived.Test.YtlhmeoeamcgcmaaGreatK8
set_option linter.unusedSimpArgs false
set_option linter.unusedVariables false
namespace Go.AM
open Go.Proofs.Tryz
theorem dschE80 {p : Prop} (h : p := by first | exact Nat.ne_of_beq_eq_false rfl | assumption | (apply asOne; (first | exact One.int | exact One.bool | assumption | exact Ints.one (by assumption) | exact Rows.one (by assumption) | exact Own.one (by assumption) | exact One.lit ⟨rfl, rfl, rfl⟩)) | (apply asInts; (repeat first | assumption | exact ints_nil | apply Ints.app); done) | (apply asRows; (repeat first | assumption | exact Rows.nil | apply Rows.app); done) | (apply asScal; (first | apply allS1 | apply allS2 | apply allS3 | apply allS4) <;> (first | exact One.int | exact One.bool | assumption | exact Ints.one (by assumption) | exact Rows.one (by assumption) | exact Own.one (by assumption) | exact One.lit ⟨rfl, rfl, rfl⟩)) | exact litT rfl | exact litF rfl | omega | (simp only [List.length_append, List.length_cons, List.length_nil, List.length_set, List.length_reverse]; first | done | omega) | fail) : p := h
attribute [-go_sem] put_ne put_same
attribute [local go_sem ↓] put_if
/-! ### Spots in a list -/
abbrev Spt := Int × Int
def eqS (x y : Spt) : Bool := decide (x.1 = y.1 ∧ x.2 = y.2)
theorem eqS_iff {x y : Spt} : eqS x y = true ↔ x = y := by
  unfold eqS
  rw [decide_eq_true_eq]
  exact ⟨fun h => Prod.ext h.1 h.2, fun h => by rw [h]; exact ⟨rfl, rfl⟩⟩
set_option maxHeartbeats 1000000 in
theorem run_indexT {base : Nat} {h : Heap} {v : AVal} {l : List Spt} {x : Spt} (hR : Rows encT h v l) (hl : l.length ≤ 1000) : callL prog raw base (.fn 114 [] []) [v, .agg [.int .i64 x.1, .int .i64 x.2]] h = some (.int .i64 (idx (eqS x) l), h) := by
  have o := hR.one
  obtain ⟨G, eG⟩ : ∃ G, G = h ++ [(⟨.cells [.int .i64 x.1, .int .i64 x.2] 101 false false, 0⟩ : ABlk)] := ⟨_, rfl⟩
  have xG : Ext h G := by rw [eG]; exact .app .refl
  have g1 : G[h.length]? = some ⟨.cells [.int .i64 x.1, .int .i64 x.2] 101 false false, 0⟩ := by rw [eG]; exact get_eq rfl
  have hRG := hR.ext xG
  have hn := hRG.len (P := prog) Fc.el96
  refine callL_run func114 rfl rfl ?_
  have hsp := @Nat.succ_ne_zero; repeat' (first | simp (disch := first | exact dschE80 | fail) only [go_sem, ↓reduceIte, hsp, ← eG, hn] | refine WP_drw ?_ | refine cnd_intro (fun hsp => ?_) fun hsp => ?_)
  refine WP_count [(4, 5), (8, 18)] 0 l.length (Nat.zero_le _) (fun _ i fr h' => fr 8 = .int .i64 (i : Int) ∧ h' = G ∧ ∀ y ∈ l.take i, eqS x y = false) ?_ ?_ ?_
  · exact ⟨by (simp (disch := first | exact dschE80 | fail) only [go_sem, ↓reduceIte, Int.natCast_zero]; first | done | rfl), rfl, by simp⟩
  · rintro i fr H hi0 hi hA ⟨p8, eH, hno⟩
    subst eH
    have p0 := hA 0 rfl
    have p3 := hA 3 rfl
    have p7 := hA 7 rfl
    try simp (disch := first | exact dschE80 | fail) only [go_sem, ↓reduceIte] at p0 p3 p7
    
    have hlt : ((i : Int) < (l.length : Int)) = True := eq_true (by omega)
    have hx : l[i]? = some l[i] := List.getElem?_eq_getElem hi
    have ad := hRG.addr (P := prog) (i := (i : Int)) Fc.el96 Fc.ar96 (by omega) (by omega)
    rw [Int.toNat_natCast] at ad
    have d1 : loadP prog H 101 (elAdr v encT.z i 0) = some (.agg [.int .i64 l[i].1, .int .i64 l[i].2]) := hRG.load (P := prog) Fc.ty101 hx
    by_cases c : x.1 = l[i].1 ∧ x.2 = l[i].2
    · have t1 : (x.1 = l[i].1 ∧ x.2 = l[i].2) = True := eq_true c
      have hsp := @Nat.succ_ne_zero; repeat' (first | simp (disch := first | exact dschE80 | fail) only [go_sem, ↓reduceIte, hsp, p0, p3, p7, p8, hlt, g1, ad, d1, Fc.eq101, t1] | refine WP_drw ?_ | refine cnd_intro (fun hsp => ?_) fun hsp => ?_)
      exact fI (idx_hit (eqS x) hi hno (decide_eq_true c)).symm xG
    · have t1 : (x.1 = l[i].1 ∧ x.2 = l[i].2) = False := eq_false c
      have hsp := @Nat.succ_ne_zero; repeat' (first | simp (disch := first | exact dschE80 | fail) only [go_sem, ↓reduceIte, hsp, p0, p3, p7, p8, hlt, g1, ad, d1, Fc.eq101, t1] | refine WP_drw ?_ | refine cnd_intro (fun hsp => ?_) fun hsp => ?_)
      exact ⟨by (repeat first | exact Agree.refl | assumption | refine Agree.put rfl ?_ | refine Agree.put0 ?_ | refine Agree.sub rfl (by assumption) ?_), by omega, take_next (eqS x) hi hno (decide_eq_false c)⟩
  · rintro fr H hA ⟨p8, eH, hno⟩
    subst eH
    have p0 := hA 0 rfl
    have p3 := hA 3 rfl
    have p7 := hA 7 rfl
    try simp (disch := first | exact dschE80 | fail) only [go_sem, ↓reduceIte] at p0 p3 p7
    
    have hlt : ((l.length : Int) < (l.length : Int)) = False := eq_false (by omega)
    have hsp := @Nat.succ_ne_zero; repeat' (first | simp (disch := first | exact dschE80 | fail) only [go_sem, ↓reduceIte, hsp, p0, p3, p7, p8, hlt] | refine WP_drw ?_ | refine cnd_intro (fun hsp => ?_) fun hsp => ?_)
    exact fI (idx_miss (eqS x) hno).symm xG
theorem run_containsT {base : Nat} {h : Heap} {v : AVal} {l : List Spt} {x : Spt} (hR : Rows encT h v l) (hl : l.length ≤ 1000) : callL prog raw base (.fn 53 [] []) [v, .agg [.int .i64 x.1, .int .i64 x.2]] h = some (.bool (decide (x ∈ l)), h) := by
  have o := hR.one
  have e : ∀ {base : Nat} {a : ABlk}, callL prog raw base (.fn 114 [] []) [v, .agg [.int .i64 x.1, .int .i64 x.2]] (h ++ [a]) = some (.int .i64 (idx (eqS x) l), h ++ [a]) := fun {base a} => run_indexT (hR.ext (.app .refl)) hl
  refine callL_run func53 rfl rfl ?_
  have hsp := @Nat.succ_ne_zero; repeat' (first | simp (disch := first | exact dschE80 | fail) only [go_sem, ↓reduceIte, hsp, e] | refine WP_drw ?_ | refine cnd_intro (fun hsp => ?_) fun hsp => ?_)
  refine fB ?_
  rw [Bool.eq_iff_iff, decide_eq_true_eq, decide_eq_true_eq, show (idx (eqS x) l ≥ 0) = (0 ≤ idx (eqS x) l) from rfl, idx_any, List.any_eq_true]
  exact ⟨fun ⟨y, h1, h2⟩ => by rw [eqS_iff.1 h2]; exact h1, fun h => ⟨x, h, eqS_iff.2 rfl⟩⟩
/-! ### Plain: the spots of a break -/
theorem sptR_mem {L : Lom} {b : Brk} {x : Spt} {n : Nat} : x ∈ sptR L b n ↔ (0 ≤ x.1 ∧ x.1 < (n : Int)) ∧ (0 ≤ x.2 ∧ x.2 < (L.T.toNat : Int)) ∧ splR L b x = true := by
  unfold sptR rowSp
  simp only [List.mem_flatMap, List.mem_map, List.mem_filter, upto_mem]
  constructor
  · rintro ⟨r, hr, t, ⟨ht, hs⟩, rfl⟩; exact ⟨hr, ht, hs⟩
  · rintro ⟨hr, ht, hs⟩; exact ⟨x.1, hr, x.2, ⟨ht, hs⟩, rfl⟩
def spLt (x y : Spt) : Prop := x.1 < y.1 ∨ (x.1 = y.1 ∧ x.2 < y.2)
/-! ### Three throws in order -/
end Go.AM
