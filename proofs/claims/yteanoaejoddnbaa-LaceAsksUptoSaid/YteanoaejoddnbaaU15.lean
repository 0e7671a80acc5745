/-
  Plain: what the reference says of rising lists; gaps; positions that decide; cards that are sure; looks.
-/
import Derived.Test.YteanoaejoddnbaaU14
import Derived.Test.YteanoaejoddnbaaU10
import Derived.Test.YteanoaejoddnbaaU13
set_option linter.unusedSimpArgs false
set_option linter.unusedVariables false
namespace Go.AM
/-! ### Lists of positions, the shortest first -/
def allS (n : Nat) : List (List Int) := (List.range (n + 1)).flatMap fun m => lexC (upto n) m [] 0
theorem sub_len {n : Nat} {x : List Int} (h : x.Sublist (upto n)) : x.length ≤ n := by have := h.length_le; rwa [upto_len] at this
theorem allS_mem {n : Nat} {x : List Int} : x ∈ allS n ↔ x.Sublist (upto n) := by
  unfold allS
  rw [List.mem_flatMap]
  constructor
  · rintro ⟨m, _, h⟩; exact (lexC_all.1 h).1
  · intro h; exact ⟨x.length, List.mem_range.2 (by have := sub_len h; omega), lexC_all.2 ⟨h, rfl⟩⟩
theorem allS_sorted {n : Nat} : (allS n).Pairwise fun x y => btL x y = true := by
  unfold allS
  rw [List.pairwise_flatMap]
  refine ⟨fun m _ => ?_, (List.pairwise_lt_range).imp fun {a b} hab x hx y hy => ?_⟩
  · refine (lexC_sorted (upto_sorted n) m).imp_of_mem fun {x y} hx hy h => ?_
    unfold btL
    rw [(lexC_all.1 hx).2, (lexC_all.1 hy).2, h]
    simp
  · unfold btL
    rw [(lexC_all.1 hx).2, (lexC_all.1 hy).2, decide_eq_true hab]
    rfl
/-! ### Rising lists, as the reference has them -/
def risB (o l : List Int) : Bool := decide (l.Pairwise fun p q => o.getD p.toNat 0 < o.getD q.toNat 0)
theorem sub_upto {n : Nat} {l : List Int} : l.Sublist (upto n) ↔ l.Pairwise (· < ·) ∧ ∀ x ∈ l, 0 ≤ x ∧ x < (n : Int) := by
  constructor
  · intro h; exact ⟨(upto_sorted n).sublist h, fun x hx => upto_mem.1 (h.subset hx)⟩
  · rintro ⟨h1, h2⟩
    have e : l = (upto n).filter fun x => decide (x ∈ l) := by
      refine pair_ext h1 ((upto_sorted _).filter _) fun x => ?_
      rw [List.mem_filter, upto_mem, decide_eq_true_eq]
      exact ⟨fun q => ⟨h2 x q, q⟩, fun q => q.2⟩
    rw [e]; exact List.filter_sublist
theorem riseP_iff {o l : List Int} : RiseP o l ↔ l.Sublist (upto o.length) ∧ risB o l = true := by
  unfold RiseP rsR risB
  rw [sub_upto, decide_eq_true_eq]
  constructor
  · rintro ⟨h1, h2⟩; exact ⟨⟨h1.imp fun q => q.1, h2⟩, h1.imp fun q => q.2⟩
  · rintro ⟨⟨h1, h2⟩, h3⟩; exact ⟨h1.and h3, h2⟩
def rseR (o : List Int) : Nat → List Int
  | 0 => []
  | s + 1 => if (risB o (memS o.length s) && btG (memS o.length s) (rseR o s)) = true then memS o.length s else rseR o s
theorem rseR_fold {o : List Int} : ∀ s, some (rseR o s) = ((List.range s).map (memS o.length)).foldl (pickO btG (risB o)) (some [])
  | 0 => rfl
  | s + 1 => by
    rw [List.range_succ, List.map_append, List.foldl_append, ← rseR_fold s]
    simp only [List.map_cons, List.map_nil, List.foldl_cons, List.foldl_nil, pickO, Option.all_some]
    rw [rseR]
    split <;> rfl
theorem rseR_is (o : List Int) : IsRise o (rseR o (2 ^ o.length)) := by
  obtain ⟨h1, h2, h3⟩ := pickO_fold btG_irr btG_trans (p := risB o) (xs := (List.range (2 ^ o.length)).map (memS o.length)) (b0 := some [])
  rw [← rseR_fold] at h1 h2 h3
  have hy : RiseP o (rseR o (2 ^ o.length)) := by
    rcases h2 _ rfl with e | ⟨e, f⟩
    · simp only [Option.some.injEq] at e
      rw [← e]; exact ⟨.nil, by simp⟩
    · obtain ⟨s, _, e'⟩ := List.mem_map.1 e
      rw [riseP_iff, ← e']
      exact ⟨memS_sub, by rw [e']; exact f⟩
  refine ⟨hy, fun z hz => ?_⟩
  obtain ⟨a, b⟩ := riseP_iff.1 hz
  obtain ⟨s, hs, e⟩ := memS_all a
  obtain ⟨y, e1, e2⟩ := h1 z (List.mem_map.2 ⟨s, List.mem_range.2 hs, e⟩) b
  cases e1
  unfold btG at e2
  simp only [Bool.or_eq_false_iff, decide_eq_false_iff_not, Bool.and_eq_false_iff] at e2
  by_cases c : z.length < (rseR o (2 ^ o.length)).length
  · exact .inl c
  · have hl : z.length = (rseR o (2 ^ o.length)).length := by omega
    refine .inr ⟨hl, ?_⟩
    rcases lexB_total hl with q | q | q
    · rcases e2.2 with r | r
      · exact absurd hl r
      · rw [q] at r; cases r
    · exact .inl q
    · exact .inr q
/-! ### Gaps -/
def fittN (L : Lac) (l : List Int) : Nat := ((upto L.C.length).filter fun k => l.any fun p => fitB L p.toNat k.toNat).length
def gapP (L : Lac) (l : List Int) : Bool := decide (fittN L l < l.length)
def gapO (L : Lac) : Option (List Int) := if (visF (gapP L) (allS L.C.length) none).1 = true then (visF (gapP L) (allS L.C.length) none).2 else none
/-! ### Cards that are sure -/
def knwL (n : Nat) (os : List (List Int)) : List Int := lst (fun p => if (os.all fun x => decide (x.getD p 0 = (os.headD []).getD p 0)) = true then (os.headD []).getD p 0 else -1) n
/-! ### Looks -/
def lvsN (n : Nat) (os : List (List Int)) (p : Nat) : Int := grt (lst (fun k => (os.countP fun o => decide (o.getD p 0 = (k : Int)) : Nat)) n)
/-- The first position with the fewest orders, at most. -/
def askN (n : Nat) (os : List (List Int)) : Nat → Int × Int
  | 0 => (0, 0)
  | p + 1 => if p = 0 ∨ lvsN n os p < (askN n os p).2 then ((p : Int), lvsN n os p) else askN n os p
/-! ### Positions that decide -/
def keyL (l o : List Int) : List Int := l.map fun p => o.getD p.toNat 0
def dcdP (os : List (List Int)) (l : List Int) : Bool := decide ((os.map (keyL l)).Nodup)
def dcdL (n : Nat) (os : List (List Int)) : List Int := ((visF (dcdP os) (allS n) none).2).getD []
theorem keyL_all {n : Nat} {o : List Int} (h : o.length = n) : keyL (upto n) o = o := by
  unfold keyL
  rw [← h]; exact upto_map
theorem dcd_all {n : Nat} {os : List (List Int)} (hn : os.Nodup) (hl : ∀ o ∈ os, o.length = n) : dcdP os (upto n) = true := by
  refine decide_eq_true ?_
  have : os.map (keyL (upto n)) = os := by
    conv => rhs; rw [← List.map_id os]
    exact List.map_congr_left fun o ho => keyL_all (hl o ho)
  rw [this]; exact hn
def IsDec (n : Nat) (os : List (List Int)) (x : List Int) : Prop := x.Sublist (upto n) ∧ dcdP os x = true ∧ ∀ y, y.Sublist (upto n) → dcdP os y = true → y = x ∨ btL x y = true
theorem isDec_one {n : Nat} {os : List (List Int)} {x y : List Int} (hx : IsDec n os x) (hy : IsDec n os y) : x = y := by
  rcases hx.2.2 y hy.1 hy.2.1 with e | e
  · exact e.symm
  · rcases hy.2.2 x hx.1 hx.2.1 with f | f
    · exact f
    · have := btL_trans _ _ _ e f
      rw [btL_irr] at this; cases this
theorem dcdL_is {n : Nat} {os : List (List Int)} (hn : os.Nodup) (hl : ∀ o ∈ os, o.length = n) : (visF (dcdP os) (allS n) none).1 = true ∧ (visF (dcdP os) (allS n) none).2 = some (dcdL n os) ∧ IsDec n os (dcdL n os) := by
  have hv : (visF (dcdP os) (allS n) none).1 = true := Classical.byContradiction fun q => by
    have := visF_none q (upto n) (allS_mem.2 (List.Sublist.refl _))
    rw [dcd_all hn hl] at this; cases this
  obtain ⟨x, h1, h2, h3, h4⟩ := visF_first allS_sorted hv
  have e : dcdL n os = x := by unfold dcdL; rw [h1]; rfl
  rw [e]
  exact ⟨hv, h1, allS_mem.1 h2, h3, fun y hy hp => h4 y (allS_mem.2 hy) hp⟩
/-- As the reference has it: the best of all sets. -/
def dcdR (n : Nat) (os : List (List Int)) : Nat → Option (List Int)
  | 0 => none
  | s + 1 => if ((dcdR n os s).all (fun b => btL (memS n s) b) && dcdP os (memS n s)) = true then some (memS n s) else dcdR n os s
theorem dcdR_fold {n : Nat} {os : List (List Int)} : ∀ s, dcdR n os s = ((List.range s).map (memS n)).foldl (pickO btL (dcdP os)) none
  | 0 => rfl
  | s + 1 => by
    rw [List.range_succ, List.map_append, List.foldl_append, ← dcdR_fold s]
    simp only [List.map_cons, List.map_nil, List.foldl_cons, List.foldl_nil, pickO]
    rw [dcdR, Bool.and_comm]
theorem dcdR_is {n : Nat} {os : List (List Int)} (hn : os.Nodup) (hl : ∀ o ∈ os, o.length = n) : dcdR n os (2 ^ n) = some (dcdL n os) := by
  obtain ⟨h1, h2, h3⟩ := pickO_fold btL_irr btL_trans (p := dcdP os) (xs := (List.range (2 ^ n)).map (memS n)) (b0 := none)
  rw [← dcdR_fold] at h1 h2 h3
  have mem : ∀ {x : List Int}, x.Sublist (upto n) → x ∈ (List.range (2 ^ n)).map (memS n) := fun {x} hx => by
    obtain ⟨s, hs, e⟩ := memS_all hx
    exact List.mem_map.2 ⟨s, List.mem_range.2 hs, e⟩
  obtain ⟨y, e1, _⟩ := h1 (upto n) (mem (List.Sublist.refl _)) (dcd_all hn hl)
  rw [e1]
  congr 1
  rcases h2 y e1 with q | ⟨q1, q2⟩
  · cases q
  · obtain ⟨s, _, e⟩ := List.mem_map.1 q1
    have ysub : y.Sublist (upto n) := by rw [← e]; exact memS_sub
    refine isDec_one (n := n) (os := os) ⟨ysub, q2, fun z hz hp => ?_⟩ (dcdL_is hn hl).2.2
    obtain ⟨y', f1, f2⟩ := h1 z (mem hz) hp
    rw [e1] at f1
    cases f1
    unfold btL at f2 ⊢
    simp only [Bool.or_eq_false_iff, decide_eq_false_iff_not, Bool.and_eq_false_iff] at f2
    by_cases c : y.length < z.length
    · exact .inr (by rw [decide_eq_true c]; rfl)
    · have hl' : z.length = y.length := by omega
      rcases lexB_total hl' with q | q | q
      · rcases f2.2 with r | r
        · exact absurd hl' r
        · rw [q] at r; cases r
      · exact .inl q
      · exact .inr (by rw [q, decide_eq_true hl'.symm]; simp)
end Go.AM
/-
  Contracts: the first order, their number, the cards that are sure.
-/
namespace Go.AM
open Go.Proofs.Try
theorem dschL17 {p : Prop} (h : p := by first | exact Nat.ne_of_beq_eq_false rfl | assumption | (apply asOne; (first | exact One.int | exact One.bool | assumption | exact Ints.one (by assumption) | exact Rows.one (by assumption) | exact Own.one (by assumption) | exact One.lit ⟨rfl, rfl, rfl⟩)) | (apply asInts; (repeat first | assumption | exact ints_nil | apply Ints.app); done) | (apply asRows; (repeat first | assumption | exact Rows.nil | apply Rows.app); done) | (apply asScal; (first | apply allS1 | apply allS2 | apply allS3 | apply allS4) <;> (first | exact One.int | exact One.bool | assumption | exact Ints.one (by assumption) | exact Rows.one (by assumption) | exact Own.one (by assumption) | exact One.lit ⟨rfl, rfl, rfl⟩)) | exact litT rfl | exact litF rfl | omega | (simp only [List.length_append, List.length_cons, List.length_nil, List.length_set, List.length_reverse]; first | done | omega) | fail) : p := h
attribute [-go_sem] put_ne put_same
attribute [local go_sem ↓] put_if
abbrev evZ (g : AVal) : ABlk := ⟨.cells [g] 74 false false, 0⟩
theorem every_Z {base b : Nat} {h : Heap} {v g : AVal} {ts : List (List Int)} (p : List Int → Bool) (hb : base ≤ h.length) (h1 : One g) (hA : AllI b h v ts) (hl : ts.length < 2 ^ 60)
    (hg : ∀ x t, t ∈ ts → OwnE encI 3 0 h x t → callL prog raw base g [x] (h ++ [evZ g]) = some (.bool (p t), h ++ [evZ g])) :
    callL prog raw base (.fn 106 [] []) [v, g] h = some (.bool (ts.all p), h ++ [evZ g]) := by
  obtain ⟨vs, hO, hvl, hel⟩ := hA
  have hR := hO.rows (by omega)
  obtain ⟨w, H, e, k, b, rfl, c1, c2⟩ := everyS_Z (base := base) (A := 0) (pr := fun _ => True) (J := fun n H => H = h ++ [evZ g] ∧ (ts.take n).all p = true) (S := fun n H => H = h ++ [evZ g] ∧ ts.all p = false) hb h1 (by omega) trivial (fun n H q => q.1 ▸ hR.app)
    (fun n x H hx hH hJ => by
      obtain ⟨rfl, hJ⟩ := hJ
      have hn := (List.getElem?_eq_some_iff.1 hx).1
      have ht : ts[n]? = some ts[n] := List.getElem?_eq_getElem (by omega)
      have ho := hel n x _ hx ht
      rw [norm_one ho.one]
      exact ⟨_, _, hg x _ (List.getElem_mem _) ho, KeepP.refl, fun q => ⟨rfl, all_take ht hJ q⟩, fun q => ⟨rfl, all_no ht q⟩⟩)
    ⟨rfl, by simp⟩
  rw [e]
  cases b with
  | false => obtain ⟨n, hn, rfl, q⟩ := c2 rfl; rw [q]
  | true =>
    obtain ⟨rfl, q⟩ := c1 rfl
    rw [hvl, List.take_length] at q
    rw [q]
theorem fnd_ord {L : Lac} {o : List Int} (h : o ∈ fnd L) : Ord L.C.length o := (fnd_mem.1 h).1
theorem ord_small {n : Nat} {o : List Int} (h : Ord n o) (hn : n ≤ 1000) : Small o := ⟨by have := h.1; omega, fun x hx => by have := h.2.1 x hx; omega⟩
theorem fndE_ok {L : Lac} (h : (fndE L).2 = 0) : chkL L = 0 ∧ fnd L ≠ [] ∧ fndE L = (fnd L, 0) := by
  unfold fndE at h ⊢
  by_cases c : chkL L = 0
  · rw [if_neg (by simp [c])] at h ⊢
    by_cases d : fnd L = []
    · rw [if_pos d] at h; cases h
    · rw [if_neg d]; exact ⟨c, d, rfl⟩
  · rw [if_pos c] at h; exact absurd h c
theorem fndE_no {L : Lac} (h : (fndE L).2 ≠ 0) : (fndE L).1 = [] := by
  unfold fndE at h ⊢
  by_cases c : chkL L = 0
  · rw [if_neg (by simp [c])] at h ⊢
    by_cases d : fnd L = []
    · rw [if_pos d]
    · rw [if_neg d] at h; exact absurd rfl h
  · rw [if_pos c]
def frsE (L : Lac) : List Int × Int := if (fndE L).2 = 0 then ((fnd L).headD [], 0) else ([], (fndE L).2)
def cntE (L : Lac) : Int × Int := ((fndE L).1.length, if (fndE L).2 = 7 then 0 else (fndE L).2)
def kwnE (L : Lac) : List Int × Int := if (fndE L).2 = 0 then (knwL L.C.length (fnd L), 0) else ([], (fndE L).2)
theorem head_at {α : Type} {l : List (List α)} (h : l ≠ []) : l[0]? = some (l.headD []) := by
  cases l with
  | nil => exact absurd rfl h
  | cons a l => rfl
theorem run_Count {base : Nat} {h : Heap} {v : AVal} {L : Lac} (hL : LacAt h v L) :
    callL prog raw base (.fn 40 [] []) [v] h = some (.tuple [.int .i64 (cntE L).1, .int .i64 (cntE L).2], h) := by
  have hL0 := hL
  obtain ⟨cv, rv, rfl, hC, hR⟩ := hL
  have o1 := hC.one
  have o2 := hR.one
  obtain ⟨G0, eG0⟩ : ∃ G0, G0 = h ++ [lacB L.T cv rv] := ⟨_, rfl⟩
  have x0 : Ext h G0 := by rw [eG0]; exact .app .refl
  have g0 : G0[h.length]? = some (lacB L.T cv rv) := by rw [eG0]; exact get_eq rfl
  have l0 : G0.length = h.length + 1 := by rw [eG0]; simp
  obtain ⟨w1, H1, e1, x1, a, x, rfl, oa, hA, hD⟩ := run_found (base := h.length) (h := G0) (by omega) (hL0.ext x0)
  have ox := hA.one
  have l1 := x1.len
  have hfew : (fndE L).1.length ≤ 823543 := by
    by_cases c : (fndE L).2 = 0
    · obtain ⟨c1, c2, c3⟩ := fndE_ok c
      rw [c3]; exact fnd_few (chkL_iff.1 c1).n.2
    · rw [fndE_no c]; simp
  have hln := hA.all.len (by omega)
  unfold lacB at eG0 g0
  refine callL_run func40 rfl rfl ?_
  by_cases c : (fndE L).2 = 7
  · have t0 : ((fndE L).2 = 7) = True := eq_true c
    have hsp := @Nat.succ_ne_zero; repeat' (first | simp (disch := first | exact dschL17 | fail) only [go_sem, ↓reduceIte, hsp, ← eG0, g0, e1, t0, hln] | refine WP_drw ?_ | refine cnd_intro (fun hsp => ?_) fun hsp => ?_)
    refine fII rfl ?_ (x0.trans x1)
    unfold cntE
    rw [if_pos c]
  · have t0 : ((fndE L).2 = 7) = False := eq_false c
    have hsp := @Nat.succ_ne_zero; repeat' (first | simp (disch := first | exact dschL17 | fail) only [go_sem, ↓reduceIte, hsp, ← eG0, g0, e1, t0, hln] | refine WP_drw ?_ | refine cnd_intro (fun hsp => ?_) fun hsp => ?_)
    refine fII rfl ?_ (x0.trans x1)
    unfold cntE
    rw [if_neg c]
end Go.AM
/-
  Contracts: lists of integers that rise.
-/
namespace Go.AM
open Go.Proofs.Try
theorem dschK4 {p : Prop} (h : p := by first | exact Nat.ne_of_beq_eq_false rfl | assumption | (apply asOne; (first | exact One.int | exact One.bool | assumption | exact Ints.one (by assumption) | exact Rows.one (by assumption) | exact Own.one (by assumption) | exact One.lit ⟨rfl, rfl, rfl⟩)) | (apply asInts; (repeat first | assumption | exact ints_nil | apply Ints.app); done) | (apply asRows; (repeat first | assumption | exact Rows.nil | apply Rows.app); done) | (apply asScal; (first | apply allS1 | apply allS2 | apply allS3 | apply allS4) <;> (first | exact One.int | exact One.bool | assumption | exact Ints.one (by assumption) | exact Rows.one (by assumption) | exact Own.one (by assumption) | exact One.lit ⟨rfl, rfl, rfl⟩)) | exact litT rfl | exact litF rfl | omega | (simp only [List.length_append, List.length_cons, List.length_nil, List.length_set, List.length_reverse]; first | done | omega) | fail) : p := h
def sortB (l : List Int) : Bool := decide (∀ i, i < l.length → 0 < i → l.getD (i - 1) 0 ≤ l.getD i 0)
theorem run_sorted {base : Nat} {h : Heap} {v : AVal} {l : List Int} (hI : Ints h v l) : callL prog raw base (.fn 51 [] []) [v] h = some (.bool (sortB l), h) := by
  have hl := hI.1.1
  refine callL_run func51 rfl rfl ?_
  have hsp := @Nat.succ_ne_zero; repeat' (first | simp (disch := first | exact dschK4 | fail) only [go_sem, hsp] | refine WP_drw ?_ | refine cnd_intro (fun hsp => ?_) fun hsp => ?_)
  refine WP_loop (fun σ => ∃ c : Int, σ.fr 3 = .int .i64 c ∧ σ.fr 0 = v ∧ σ.h = h ∧ -1 ≤ c ∧ c < l.length ∧ ∀ i : Nat, c < i → i < l.length → l.getD (i - 1) 0 ≤ l.getD i 0) (fun σ => match σ.fr 3 with | .int _ x => (x + 1).toNat | _ => 0) ?_ ?_
  · refine ⟨(l.length : Int) - 1, ?_, ?_, rfl, by omega, by omega, fun i h1 h2 => by omega⟩
    · simp (disch := first | exact dschK4 | fail) only [go_sem]
    · simp (disch := first | exact dschK4 | fail) only [go_sem]
  · rintro ⟨fr, hp⟩ ⟨c, r3, r0, rh, hc1, hc2, hP⟩
    dsimp only at r3 r0 rh
    subst rh
    by_cases hc : c > 0
    · have hlt : (c > 0) = True := eq_true hc
      obtain ⟨n, rfl⟩ := Int.eq_ofNat_of_zero_le (show 0 ≤ c by omega)
      have e1 : ((n : Int) - 1).toNat = n - 1 := by omega
      by_cases hs : l.getD n 0 < l.getD (n - 1) 0
      · have t2 : (l.getD n 0 < l.getD (n - 1) 0) = True := eq_true hs
        have hsp := @Nat.succ_ne_zero; repeat' (first | simp (disch := first | exact dschK4 | fail) only [go_sem, hsp, r3, r0, hlt, e1, t2] | refine WP_drw ?_ | refine cnd_intro (fun hsp => ?_) fun hsp => ?_)
        refine fB (decide_eq_false fun hh => ?_).symm
        have := hh n (by omega) (by omega)
        omega
      · have t2 : (l.getD n 0 < l.getD (n - 1) 0) = False := eq_false hs
        have hsp := @Nat.succ_ne_zero; repeat' (first | simp (disch := first | exact dschK4 | fail) only [go_sem, hsp, r3, r0, hlt, e1, t2] | refine WP_drw ?_ | refine cnd_intro (fun hsp => ?_) fun hsp => ?_)
        refine ⟨⟨(n : Int) - 1, rfl, by omega, by omega, fun i h1 h2 => ?_⟩, by omega⟩
        by_cases e : i = n
        · subst e; omega
        · exact hP i (by omega) h2
    · have hlt : (c > 0) = False := eq_false hc
      have hsp := @Nat.succ_ne_zero; repeat' (first | simp (disch := first | exact dschK4 | fail) only [go_sem, hsp, r3, r0, hlt] | refine WP_drw ?_ | refine cnd_intro (fun hsp => ?_) fun hsp => ?_)
      exact fB (decide_eq_true fun i h1 h2 => hP i (by omega) h1).symm
attribute [go_sem] run_sorted
end Go.AM
/-
  Contracts: how many cards fit some positions; by how much these are a gap.
-/
namespace Go.AM
open Go.Proofs.Try
theorem dschL19 {p : Prop} (h : p := by first | exact Nat.ne_of_beq_eq_false rfl | assumption | (apply asOne; (first | exact One.int | exact One.bool | assumption | exact Ints.one (by assumption) | exact Rows.one (by assumption) | exact Own.one (by assumption) | exact One.lit ⟨rfl, rfl, rfl⟩)) | (apply asInts; (repeat first | assumption | exact ints_nil | apply Ints.app); done) | (apply asRows; (repeat first | assumption | exact Rows.nil | apply Rows.app); done) | (apply asScal; (first | apply allS1 | apply allS2 | apply allS3 | apply allS4) <;> (first | exact One.int | exact One.bool | assumption | exact Ints.one (by assumption) | exact Rows.one (by assumption) | exact Own.one (by assumption) | exact One.lit ⟨rfl, rfl, rfl⟩)) | exact litT rfl | exact litF rfl | omega | (simp only [List.length_append, List.length_cons, List.length_nil, List.length_set, List.length_reverse]; first | done | omega) | fail) : p := h
attribute [-go_sem] put_ne put_same
attribute [local go_sem ↓] put_if
theorem run_fit1 {base a b id p k : Nat} {h : Heap} {L : Lac} (ga : h[a]? = some (pB id)) (gb : h[b]? = some (nB (k : Int))) (hD : DskAt h id L) (hn : L.C.length ≤ 7) (hp : p < L.C.length) (hk : k < L.C.length) :
    callL prog raw base (.fn 163 [] [.ptr (some ⟨a, 0, 0⟩), .ptr (some ⟨b, 0, 0⟩)]) [.int .i64 (p : Int)] h = some (.bool (fitB L p k), h) := by
  obtain ⟨cv, rv, hg, -, -⟩ := hD
  have la := lt_of_get ga
  have lb := lt_of_get gb
  have lid := lt_of_get hg
  have ad1 := Fc.ad150 (id := id) (ver := 0) (o := 3) (i := (p : Int)) (by omega) (by omega)
  have ad2 := Fc.ad148 (id := id) (ver := 0) (o := 3 + p * 7) (i := (k : Int)) (by omega) (by omega)
  rw [Int.toNat_natCast] at ad1 ad2
  rw [Nat.mul_one] at ad2
  have lb := ld_dsk hg hn hp hk
  unfold pB at ga
  unfold nB at gb
  refine callL_run func163 rfl rfl ?_
  have hsp := @Nat.succ_ne_zero; repeat' (first | simp (disch := first | exact dschL19 | fail) only [go_sem, ↓reduceIte, hsp, ga, gb, ad1, ad2, lb] | refine WP_drw ?_ | refine cnd_intro (fun hsp => ?_) fun hsp => ?_)
  exact fB rfl
set_option maxHeartbeats 1000000 in
theorem run_fitting {base id : Nat} {h : Heap} {v : AVal} {L : Lac} {l : List Int} (hD : DskAt h id L) (hn : L.C.length ≤ 7) (hI : Ints h v l) (hl : ∀ x ∈ l, 0 ≤ x ∧ x < (L.C.length : Int)) :
    callL prog raw base (.fn 119 [] []) [.ptr (some ⟨id, 0, 0⟩), v] h = some (.int .i64 (fittN L l : Int), h) := by
  have hD0 := hD
  obtain ⟨cv, rv, hg, hC, hR⟩ := hD
  have lid := lt_of_get hg
  have ov := hI.one
  obtain ⟨G, eG⟩ : ∃ G, G = h ++ [pB id] := ⟨_, rfl⟩
  have xG : Ext h G := by rw [eG]; exact .app .refl
  have gp : G[h.length]? = some (pB id) := by rw [eG]; exact get_eq rfl
  have lG : G.length = h.length + 1 := by rw [eG]; simp
  have lc := ld_cards (xG.get hg)
  have hlc := lenI (hC.ext xG)
  have gp' := gp
  unfold pB at eG gp'
  obtain ⟨f, ef⟩ : ∃ f : Int → Bool, f = fun k => l.any fun p => fitB L p.toNat k.toNat := ⟨_, rfl⟩
  refine callL_run func119 rfl rfl ?_
  have hsp := @Nat.succ_ne_zero; repeat' (first | simp (disch := first | exact dschL19 | fail) only [go_sem, ↓reduceIte, hsp, ← eG, gp', lc, hlc] | refine WP_drw ?_ | refine cnd_intro (fun hsp => ?_) fun hsp => ?_)
  refine WP_count [(5, 6), (13, 21)] 0 L.C.length (Nat.zero_le _) (fun _ k fr H => fr 13 = .int .i64 (k : Int) ∧ Ext G H ∧ fr 5 = .int .i64 ((((upto k).filter f).length : Nat) : Int)) ?_ ?_ ?_
  · exact ⟨by (simp (disch := first | exact dschL19 | fail) only [go_sem, ↓reduceIte, Int.natCast_zero]; first | done | rfl), .refl, by simp (disch := first | exact dschL19 | fail) only [go_sem, ↓reduceIte]; rfl⟩
  · rintro k fr H hk0 hk hA ⟨r13, xH, r5⟩
    have q1 := hA 1 rfl
    have q2 := hA 2 rfl
    have q4 := hA 4 rfl
    have q12 := hA 12 rfl
    try simp (disch := first | exact dschL19 | fail) only [go_sem, ↓reduceIte] at q1 q2 q4 q12
    have hlt : ((k : Int) < (L.C.length : Int)) = True := eq_true (by omega)
    have lH := xH.len
    have hfl : ((upto k).filter f).length ≤ k := Nat.le_trans (List.length_filter_le _ _) (by rw [upto_len]; omega)
    obtain ⟨K, eK⟩ : ∃ K, K = H ++ [nB (k : Int)] := ⟨_, rfl⟩
    have xK : Ext H K := by rw [eK]; exact .app .refl
    have gK : K[H.length]? = some (nB (k : Int)) := by rw [eK]; exact get_eq rfl
    have xGK := xH.trans xK
    have lK := xGK.len
    have hany := any_I (base := h.length) (h := K) (v := v) (g := .fn 163 [] [.ptr (some ⟨h.length, 0, 0⟩), .ptr (some ⟨H.length, 0, 0⟩)]) (l := l) (fun p => fitB L p.toNat k) (by omega) ⟨rfl, rfl, rfl⟩ (hI.ext (xG.trans xGK)) (fun x hx => by
      have hx2 := hl x hx
      obtain ⟨p, rfl⟩ := Int.eq_ofNat_of_zero_le hx2.1
      exact run_fit1 (xGK.get gp) gK (hD0.ext (xG.trans xGK)) hn (by omega) hk)
    have hfk : l.any (fun p => fitB L p.toNat k) = f (k : Int) := by rw [ef]; simp only [Int.toNat_natCast]
    rw [hfk] at hany
    have hup := upto_filt (f := f) (k := k)
    unfold nB at eK gK
    cases c : f (k : Int) with
    | true =>
      rw [c] at hany hup
      rw [if_pos rfl] at hup
      have hlen : (((upto k).filter f).length : Int) + 1 = ((((upto (k + 1)).filter f).length : Nat) : Int) := by rw [hup]; simp
      have hsp := @Nat.succ_ne_zero; repeat' (first | simp (disch := first | exact dschL19 | fail) only [go_sem, ↓reduceIte, hsp, r13, r5, q1, q2, q4, q12, hlt, ← eK, hany] | refine WP_drw ?_ | refine cnd_intro (fun hsp => ?_) fun hsp => ?_)
      exact ⟨by (repeat first | exact Agree.refl | assumption | refine Agree.put rfl ?_ | refine Agree.put0 ?_ | refine Agree.sub rfl (by assumption) ?_), by omega, xGK, hlen⟩
    | false =>
      rw [c] at hany hup
      rw [if_neg (by simp), List.append_nil] at hup
      have hsp := @Nat.succ_ne_zero; repeat' (first | simp (disch := first | exact dschL19 | fail) only [go_sem, ↓reduceIte, hsp, r13, r5, q1, q2, q4, q12, hlt, ← eK, hany] | refine WP_drw ?_ | refine cnd_intro (fun hsp => ?_) fun hsp => ?_)
      exact ⟨by (repeat first | exact Agree.refl | assumption | refine Agree.put rfl ?_ | refine Agree.put0 ?_ | refine Agree.sub rfl (by assumption) ?_), by omega, xGK, by rw [hup]⟩
  · rintro fr H hA ⟨r13, xH, r5⟩
    have q1 := hA 1 rfl
    have q2 := hA 2 rfl
    have q4 := hA 4 rfl
    have q12 := hA 12 rfl
    try simp (disch := first | exact dschL19 | fail) only [go_sem, ↓reduceIte] at q1 q2 q4 q12
    have hlt : ((L.C.length : Int) < (L.C.length : Int)) = False := eq_false (by omega)
    have hsp := @Nat.succ_ne_zero; repeat' (first | simp (disch := first | exact dschL19 | fail) only [go_sem, ↓reduceIte, hsp, r13, r5, q1, q2, q4, q12, hlt] | refine WP_drw ?_ | refine cnd_intro (fun hsp => ?_) fun hsp => ?_)
    refine fI ?_ (xG.trans xH)
    rw [ef]; rfl
theorem run_pos {base : Nat} {h : Heap} {T x : Int} {cv rv : AVal} {l : List Int} (hC : Ints h cv l) (o2 : One rv) : callL prog raw base (.fn 113 [.agg [.int .i64 T, cv, rv]] []) [.int .i64 x] h = some (.bool (decide (0 ≤ x ∧ x ≤ (l.length : Int) - 1)), h) := by
  have o1 := hC.one
  have hb := hC.1.1
  obtain ⟨G, eG⟩ : ∃ G, G = h ++ [lacB T cv rv] := ⟨_, rfl⟩
  have xG : Ext h G := by rw [eG]; exact .app .refl
  have g0 : G[h.length]? = some (lacB T cv rv) := by rw [eG]; exact get_eq rfl
  have hl := lenI (hC.ext xG)
  unfold lacB at eG g0
  refine callL_run func113 rfl rfl ?_
  have hsp := @Nat.succ_ne_zero; repeat' (first | simp (disch := first | exact dschL19 | fail) only [go_sem, ↓reduceIte, hsp, ← eG, g0, hl] | refine WP_drw ?_ | refine cnd_intro (fun hsp => ?_) fun hsp => ?_)
  exact fB rfl xG
def gpsE (L : Lac) (gap : List Int) : Int × Int :=
  if chkL L ≠ 0 then (0, chkL L) else if ¬ (gap.all fun x => decide (0 ≤ x ∧ x ≤ (L.C.length : Int) - 1)) = true then (0, 1) else if gap = [] ∨ sortB gap = false ∨ twB gap = true then (0, 4) else
  if (gap.length : Int) - fittN L gap < 1 then (0, 6) else ((gap.length : Int) - fittN L gap, 0)
set_option maxHeartbeats 2000000 in
theorem run_Gapes {base : Nat} {h : Heap} {v gv : AVal} {L : Lac} {gap : List Int} (hL : LacAt h v L) (hG : Ints h gv gap) :
    callL prog raw base (.fn 54 [] []) [v, gv] h = some (.tuple [.int .i64 (gpsE L gap).1, .int .i64 (gpsE L gap).2], h) := by
  have hL0 := hL
  obtain ⟨cv, rv, rfl, hC, hR⟩ := hL
  have o1 := hC.one
  have o2 := hR.one
  have o3 := hG.one
  have hgb := hG.1.1
  obtain ⟨G0, eG0⟩ : ∃ G0, G0 = h ++ [lacB L.T cv rv] := ⟨_, rfl⟩
  have x0 : Ext h G0 := by rw [eG0]; exact .app .refl
  have g0 : G0[h.length]? = some (lacB L.T cv rv) := by rw [eG0]; exact get_eq rfl
  have l0 : G0.length = h.length + 1 := by rw [eG0]; simp
  obtain ⟨w1, H1, e1, x1, r1, r2⟩ := run_opened (base := h.length) (h := G0) (by omega) (hL0.ext x0)
  have l1 := x1.len
  have g1 := x1.get g0
  unfold lacB at eG0 g0 g1
  refine callL_run func54 rfl rfl ?_
  by_cases c0 : chkL L = 0
  · obtain ⟨id, rfl, hid, hD⟩ := r2 c0
    have kn := (chkL_iff.1 c0).n
    have xh := x0.trans x1
    obtain ⟨H2, eH2⟩ : ∃ H2, H2 = H1 ++ [evB (.fn 113 [.agg [.int .i64 L.T, cv, rv]] [])] := ⟨_, rfl⟩
    have x2 : Ext H1 H2 := by rw [eH2]; exact .app .refl
    have xh2 := xh.trans x2
    have hev := every_I (base := h.length) (h := H1) (v := gv) (g := .fn 113 [.agg [.int .i64 L.T, cv, rv]] []) (l := gap) (fun x => decide (0 ≤ x ∧ x ≤ (L.C.length : Int) - 1)) (by omega) ⟨rfl, rfl, rfl⟩ (hG.ext xh) (fun x _ => run_pos (hC.ext (xh.trans (.app .refl))) o2)
    rw [← eH2] at hev
    have hGl := lenI (hG.ext xh2)
    have hst := fun base => run_sorted (base := base) (hG.ext xh2)
    have htw := fun base => run_twice (base := base) (hG.ext xh2)
    cases c1 : gap.all (fun x => decide (0 ≤ x ∧ x ≤ (L.C.length : Int) - 1)) with
    | false =>
      rw [c1] at hev
      have hsp := @Nat.succ_ne_zero; repeat' (first | simp (disch := first | exact dschL19 | fail) only [go_sem, ↓reduceIte, hsp, ← eG0, g0, e1, eq_self, g1, hev] | refine WP_drw ?_ | refine cnd_intro (fun hsp => ?_) fun hsp => ?_)
      have r : gpsE L gap = (0, 1) := by unfold gpsE; rw [if_neg (by simp [c0]), if_pos (by rw [c1]; simp)]
      rw [r]
      exact fII rfl rfl xh2
    | true =>
      rw [c1] at hev
      have hin : ∀ x ∈ gap, 0 ≤ x ∧ x < (L.C.length : Int) := fun x hx => by have := of_decide_eq_true (List.all_eq_true.1 c1 x hx); omega
      have hft := fun base => run_fitting (base := base) (hD.ext x2) kn.2 (hG.ext xh2) hin
      have hfn : fittN L gap ≤ 7 := Nat.le_trans (List.length_filter_le _ _) (by rw [upto_len]; exact kn.2)
      have u1 : ¬ (¬ (gap.all fun x => decide (0 ≤ x ∧ x ≤ (L.C.length : Int) - 1)) = true) := by rw [c1]; simp
      by_cases c2 : gap = []
      · have t2 : ((gap.length : Int) = 0) = True := eq_true (by rw [c2]; rfl)
        have hsp := @Nat.succ_ne_zero; repeat' (first | simp (disch := first | exact dschL19 | fail) only [go_sem, ↓reduceIte, hsp, ← eG0, g0, e1, eq_self, g1, hev, hGl, t2] | refine WP_drw ?_ | refine cnd_intro (fun hsp => ?_) fun hsp => ?_)
        have r : gpsE L gap = (0, 4) := by unfold gpsE; rw [if_neg (by simp [c0]), if_neg u1, if_pos (.inl c2)]
        rw [r]
        exact fII rfl rfl xh2
      · have hgp : 0 < gap.length := by cases q : gap with | nil => exact absurd q c2 | cons a b => simp
        have t2 : ((gap.length : Int) = 0) = False := eq_false (by omega)
        cases c3 : sortB gap with
        | false =>
          rw [c3] at hst
          have hsp := @Nat.succ_ne_zero; repeat' (first | simp (disch := first | exact dschL19 | fail) only [go_sem, ↓reduceIte, hsp, ← eG0, g0, e1, eq_self, g1, hev, hGl, t2, hst] | refine WP_drw ?_ | refine cnd_intro (fun hsp => ?_) fun hsp => ?_)
          have r : gpsE L gap = (0, 4) := by unfold gpsE; rw [if_neg (by simp [c0]), if_neg u1, if_pos (.inr (.inl c3))]
          rw [r]
          exact fII rfl rfl xh2
        | true =>
          rw [c3] at hst
          cases c4 : twB gap with
          | true =>
            rw [c4] at htw
            have hsp := @Nat.succ_ne_zero; repeat' (first | simp (disch := first | exact dschL19 | fail) only [go_sem, ↓reduceIte, hsp, ← eG0, g0, e1, eq_self, g1, hev, hGl, t2, hst, htw] | refine WP_drw ?_ | refine cnd_intro (fun hsp => ?_) fun hsp => ?_)
            have r : gpsE L gap = (0, 4) := by unfold gpsE; rw [if_neg (by simp [c0]), if_neg u1, if_pos (.inr (.inr c4))]
            rw [r]
            exact fII rfl rfl xh2
          | false =>
            rw [c4] at htw
            have u2 : ¬ (gap = [] ∨ sortB gap = false ∨ twB gap = true) := by rw [c3, c4]; simp [c2]
            by_cases c5 : (gap.length : Int) - fittN L gap < 1
            · have t5 : ((gap.length : Int) - (fittN L gap : Int) < 1) = True := eq_true c5
              have hsp := @Nat.succ_ne_zero; repeat' (first | simp (disch := first | exact dschL19 | fail) only [go_sem, ↓reduceIte, hsp, ← eG0, g0, e1, eq_self, g1, hev, hGl, t2, hst, htw, hft, t5] | refine WP_drw ?_ | refine cnd_intro (fun hsp => ?_) fun hsp => ?_)
              have r : gpsE L gap = (0, 6) := by unfold gpsE; rw [if_neg (by simp [c0]), if_neg u1, if_neg u2, if_pos c5]
              rw [r]
              exact fII rfl rfl xh2
            · have t5 : ((gap.length : Int) - (fittN L gap : Int) < 1) = False := eq_false c5
              have hsp := @Nat.succ_ne_zero; repeat' (first | simp (disch := first | exact dschL19 | fail) only [go_sem, ↓reduceIte, hsp, ← eG0, g0, e1, eq_self, g1, hev, hGl, t2, hst, htw, hft, t5] | refine WP_drw ?_ | refine cnd_intro (fun hsp => ?_) fun hsp => ?_)
              have r : gpsE L gap = ((gap.length : Int) - fittN L gap, 0) := by unfold gpsE; rw [if_neg (by simp [c0]), if_neg u1, if_neg u2, if_neg c5]
              rw [r]
              exact fII rfl rfl xh2
  · have t0 : (chkL L = 0) = False := eq_false c0
    have r := r1 c0
    subst r
    have hsp := @Nat.succ_ne_zero; repeat' (first | simp (disch := first | exact dschL19 | fail) only [go_sem, ↓reduceIte, hsp, ← eG0, g0, e1, t0, g1] | refine WP_drw ?_ | refine cnd_intro (fun hsp => ?_) fun hsp => ?_)
    have re : gpsE L gap = (0, chkL L) := by unfold gpsE; rw [if_pos c0]
    rw [re]
    exact fII rfl rfl (x0.trans x1)
end Go.AM
/-
  Slices that lie in none of some blocks; heaps in which all blocks but one stay.
-/
namespace Go.AM
open Go.Proofs.Try
/-- A slice that is read, whose block is none of some. -/
def Off (X : List Nat) (v : AVal) : Prop := ∀ r n c, v = .slice (some r) n c → r.id ∉ X
theorem Own.off {α : Type} {E : Enc α} {e : TypeId} {b : Nat} {h : Heap} {v : AVal} {l : List α} {X : List Nat} (x : Own E e b h v l) (hX : ∀ i ∈ X, i < b) : Off X v := by
  intro r n c q hm
  rcases x with ⟨rfl, _⟩ | ⟨id, ver, rfl, _, h2, _⟩
  · cases q
  · cases q
    have : id < b := hX _ hm
    omega
/-- All blocks but one stay. -/
def KeepX (ob : Nat) (H H' : Heap) : Prop := H.length ≤ H'.length ∧ ∀ i b, i ≠ ob → H[i]? = some b → H'[i]? = some b
section
variable {ob : Nat} {H H' H2 h : Heap}
theorem KeepX.refl : KeepX ob H H := ⟨Nat.le_refl _, fun _ _ _ h => h⟩
theorem KeepX.trans (a : KeepX ob H H') (b : KeepX ob H' H2) : KeepX ob H H2 := ⟨Nat.le_trans a.1 b.1, fun i k hi h => b.2 i k hi (a.2 i k hi h)⟩
theorem KeepX.ofExt (e : Ext H H') : KeepX ob H H' := ⟨e.len, fun _ _ _ h => e.get h⟩
theorem KeepX.set {k : ABlk} (a : KeepX ob H H') : KeepX ob H (H'.set ob k) := ⟨by rw [List.length_set]; exact a.1, fun i b hi h => by rw [List.getElem?_set_ne (fun e => hi e.symm)]; exact a.2 i b hi h⟩
theorem KeepX.own {α : Type} {E : Enc α} {e : TypeId} {b : Nat} {v : AVal} {l : List α} (a : KeepX ob H H') (x : Own E e b H v l) (hv : Off [ob] v) : Own E e b H' v l := by
  rcases x with ⟨rfl, rfl⟩ | ⟨id, ver, rfl, h1, h2, h3⟩
  · exact .nil
  · exact .inr ⟨id, ver, rfl, a.2 id _ (fun e => hv _ _ _ rfl (by rw [e]; simp)) h1, h2, h3⟩
/-- What lies below that one goes on. -/
theorem KeepX.ext (a : KeepX ob H H') (e : Ext h H) (hb : h.length ≤ ob) : Ext h H' := by
  refine ⟨H'.drop h.length, ?_⟩
  have hl := e.len
  have : H'.take h.length = h := by
    refine List.ext_getElem? fun i => ?_
    rw [List.getElem?_take]
    split
    · rename_i hi
      have h1 : h[i]? = some h[i] := List.getElem?_eq_getElem hi
      rw [h1]
      exact a.2 i _ (by omega) (e.get h1)
    · rename_i hi
      rw [List.getElem?_eq_none (by omega)]
  have h2 := List.take_append_drop h.length H'
  rw [this] at h2
  exact h2.symm
end
/-- A copy of a slice that is full. -/
theorem run_cloneI {base : Nat} {h : Heap} {v : AVal} {l : List Int} (hO : Own encI 3 0 h v l) (hs : Small l) : ∃ v' H, callL prog raw base (.fn 21 [] []) [v] h = some (v', H) ∧ Ext h H ∧ Own encI 3 h.length H v' l := by
  have hI := (hO.rows (by have := hs.1; omega)).ints hs.2
  have hc := run_clone (base := base) hI hs
  rcases hO with ⟨rfl, rfl⟩ | ⟨id, ver, rfl, h1, h2, h3⟩
  · refine ⟨_, _, hc, ?_, ?_⟩
    · simp only [cloneH]; exact .app .refl
    · simp only [cloneV, nilB, if_true]; exact Own.nil
  · have hne : l ≠ [] := fun e => by rw [e] at h3; simp at h3
    have e1 : nilB (.slice (some ⟨id, ver, 0⟩) l.length l.length) = false := rfl
    rw [cloneV, cloneH, if_neg (by simp [e1]), if_neg (by simp [e1]), newV_ne hne, newH_ne hne] at hc
    refine ⟨_, _, hc, .app .refl, .inr ⟨h.length, 0, rfl, ?_, Nat.le_refl _, h3⟩⟩
    rw [get_eq rfl, rowB, rowE, flat_encI]
end Go.AM
/-
  Contracts: the first one of the shortest lists of positions for which something holds (first).
-/
namespace Go.AM
open Go.Proofs.Try
theorem dschL38 {p : Prop} (h : p := by first | exact Nat.ne_of_beq_eq_false rfl | assumption | (apply asOne; (first | exact One.int | exact One.bool | assumption | exact Ints.one (by assumption) | exact Rows.one (by assumption) | exact Own.one (by assumption) | exact One.lit ⟨rfl, rfl, rfl⟩)) | (apply asInts; (repeat first | assumption | exact ints_nil | apply Ints.app); done) | (apply asRows; (repeat first | assumption | exact Rows.nil | apply Rows.app); done) | (apply asScal; (first | apply allS1 | apply allS2 | apply allS3 | apply allS4) <;> (first | exact One.int | exact One.bool | assumption | exact Ints.one (by assumption) | exact Rows.one (by assumption) | exact Own.one (by assumption) | exact One.lit ⟨rfl, rfl, rfl⟩)) | exact litT rfl | exact litF rfl | omega | (simp only [List.length_append, List.length_cons, List.length_nil, List.length_set, List.length_reverse]; first | done | omega) | fail) : p := h
attribute [-go_sem] put_ne put_same
attribute [local go_sem ↓] put_if
def mrV (M O S D R : Nat) : AVal := .fn 161 [] [.ptr (some ⟨M, 0, 0⟩), .ptr (some ⟨O, 0, 0⟩), .ptr (some ⟨S, 0, 0⟩), .ptr (some ⟨D, 0, 0⟩), .ptr (some ⟨R, 0, 0⟩)]
abbrev mrB (f : AVal) : ABlk := ⟨.cells [f] 73 false false, 0⟩
/-- The boxes of what the search has caught. -/
structure FrsAt (h H : Heap) (M O S D R many id : Nat) (g : AVal) : Prop where
  ext : Ext h H
  ne : M ≠ O ∧ S ≠ O ∧ D ≠ O ∧ R ≠ O
  m : H[M]? = some (nB (many : Int))
  s : H[S]? = some (fnB g)
  d : H[D]? = some (pB id)
  r : H[R]? = some (mrB (mrV M O S D R))
theorem FrsAt.keep {h H H' : Heap} {M O S D R many id : Nat} {g : AVal} (x : FrsAt h H M O S D R many id g) (k : KeepX O H H') (hO : h.length ≤ O) : FrsAt h H' M O S D R many id g :=
  ⟨k.ext x.ext hO, x.ne, k.2 _ _ x.ne.1 x.m, k.2 _ _ x.ne.2.1 x.s, k.2 _ _ x.ne.2.2.1 x.d, k.2 _ _ x.ne.2.2.2 x.r⟩
/-- What was visited last. -/
def OutI (O : Nat) (o : Option (List Int)) (H : Heap) : Prop := ∃ v, H[O]? = some (lB v) ∧ match o with | none => v = .slice none 0 0 | some l => Own encI 3 (O + 1) H v l
theorem OutI.ext {O : Nat} {o : Option (List Int)} {H H' : Heap} (x : OutI O o H) (e : Ext H H') : OutI O o H' := by
  obtain ⟨v, h1, h2⟩ := x
  refine ⟨v, e.get h1, ?_⟩
  cases o with
  | none => exact h2
  | some l => exact Own.ext h2 e
theorem stL38 {base : Nat} {l : List Oper} {s : St} {Q : AExit → St → Prop} : WP prog raw base (.region 7 l.toArray true) s Q = WPS prog raw base (.region 7 l.toArray true) s Q := WP_stop
attribute [local go_sem ↓ 3000] stL38
theorem upto_getD {n i : Nat} (h : i < n) : (upto n).getD i 0 = (i : Int) := lst_get h
section
variable {base M O S D R many id : Nat} {h : Heap} {g : AVal} {L : Lac} {p : List Int → Bool}
set_option maxRecDepth 100000 in
set_option maxHeartbeats 4000000 in
theorem run_frs1 (hb : base ≤ h.length) (hg : One g) (hO : h.length ≤ O) (hD : DskAt h id L) (hn : L.C.length ≤ 7) (hcb : ∀ H sv l, Ext h H → O < H.length → Own encI 3 (O + 1) H sv l → (∀ x ∈ l, 0 ≤ x ∧ x < (L.C.length : Int)) → l.length ≤ L.C.length → callL prog raw base g [sv] H = some (.bool (p l), H)) (hmany : many ≤ L.C.length) :
    ∀ (d : Nat) {l : List Int} {a : Nat} {lv : AVal} {H : Heap} {o : Option (List Int)}, l.length + d = many → O < H.length → Own encI 3 (O + 1) H lv l → (∀ x ∈ l, 0 ≤ x ∧ x < (L.C.length : Int)) → a ≤ L.C.length → FrsAt h H M O S D R many id g → OutI O o H →
    Ret prog raw base (mrV M O S D R) [lv, .int .i64 (a : Int)] H (fun v H' => v = .bool (visF p (lexC (upto L.C.length) d l a) o).1 ∧ KeepX O H H' ∧ OutI O (visF p (lexC (upto L.C.length) d l a) o).2 H') := by
  intro d
  induction d with
  | zero =>
    intro l a lv H o hl hob hL hin ha hF hI
    obtain ⟨x0, ⟨n1, n2, n3, n4⟩, m1, m2, m3, m4⟩ := hF
    obtain ⟨v0, g0, _⟩ := hI
    have ol := hL.one
    have hll := own_len hL Fc.el25 (by omega)
    have t1 : ((l.length : Int) = (many : Int)) = True := eq_true (by omega)
    obtain ⟨H2, eH2⟩ : ∃ H2, H2 = H.set O (lB lv) := ⟨_, rfl⟩
    have k2 : KeepX O H H2 := by rw [eH2]; exact KeepX.refl.set
    have g2 : H2[O]? = some (lB lv) := by rw [eH2, List.getElem?_set_self hob]
    have hL2 : Own encI 3 (O + 1) H2 lv l := by rw [eH2]; exact hL.set (by omega)
    have ms2 := k2.2 _ _ n2 m2
    have e1 := hcb H2 lv l (k2.ext x0 hO) (by have := k2.1; omega) hL2 hin (by omega)
    have r : visF p (lexC (upto L.C.length) 0 l a) o = (p l, some l) := by
      simp only [lexC, visF]
      cases p l <;> rfl
    rw [r]
    unfold nB at m1
    unfold lB at g0 eH2
    unfold fnB at ms2
    have hbO : base ≤ O := by omega
    refine ret_raw func161 rfl (by kernel_rfl) ?_
    have hsp := @Nat.succ_ne_zero; repeat' (first | simp (disch := first | exact dschL38 | fail) only [go_sem, ↓reduceIte, hsp, hll, m1, t1, g0, ← eH2, ms2, e1] | refine WP_drw ?_ | refine cnd_intro (fun hsp => ?_) fun hsp => ?_)
    exact ⟨k2, lv, g2, hL2⟩
  | succ d ih =>
    intro l a lv H o hl hob hL hin ha hF hI
    have hF0 := hF
    obtain ⟨x0, ⟨n1, n2, n3, n4⟩, m1, m2, m3, m4⟩ := hF
    have ol := hL.one
    have hll := own_len hL Fc.el25 (by omega)
    have t1 : ((l.length : Int) = (many : Int)) = False := eq_false (by omega)
    unfold nB at m1
    refine ret_raw func161 rfl (by kernel_rfl) ?_
    have hsp := @Nat.succ_ne_zero; repeat' (first | simp (disch := first | exact dschL38 | fail) only [go_sem, ↓reduceIte, hsp, hll, m1, t1] | refine WP_drw ?_ | refine cnd_intro (fun hsp => ?_) fun hsp => ?_)
    refine WP_count [(9, 38)] 0 (L.C.length - a) (Nat.zero_le _) (fun _ j fr K => fr 10 = .int .i64 ((a + j : Nat) : Int) ∧ KeepX O H K ∧ (visF p (lexP (upto L.C.length) d l a j) o).1 = false ∧ OutI O (visF p (lexP (upto L.C.length) d l a j) o).2 K) ?_ ?_ ?_
    · exact ⟨by (simp (disch := first | exact dschL38 | fail) only [go_sem, ↓reduceIte, Int.natCast_zero]; first | done | rfl), .refl, rfl, hI⟩
    · rintro j fr H1 hj0 hj hA ⟨r10, xK, hv, hi1⟩
      have q0 := hA 0 rfl
      have q5 := hA 5 rfl
      have q6 := hA 6 rfl
      try simp (disch := first | exact dschL38 | fail) only [go_sem, ↓reduceIte] at q0 q5 q6
      obtain ⟨x1, _, q1, q2, q3, q4⟩ := hF0.keep xK hO
      have hlk := xK.1
      have hL1 := xK.own hL (hL.off (X := [O]) fun i hi => by rw [List.mem_singleton] at hi; omega)
      have hlt : (((a + j : Nat) : Int) < (L.C.length : Int)) = True := eq_true (by omega)
      obtain ⟨cv, rv, hdg, hC, -⟩ := hD.ext x1
      have lc := ld_cards hdg
      have hlc := lenI hC
      have oc := hC.one
      unfold pB at q3
      have hsp := @Nat.succ_ne_zero; repeat' (first | simp (disch := first | exact dschL38 | fail) only [go_sem, ↓reduceIte, hsp, r10, q0, q5, q6, q3, lc, hlc, hlt] | refine WP_drw ?_ | refine cnd_intro (fun hsp => ?_) fun hsp => ?_)
      refine WPS_go ?_
      obtain ⟨x, ex⟩ : ∃ x : Nat, x = a + j := ⟨_, rfl⟩
      have hsmall : Small l := ⟨by omega, fun y hy => by have := hin y hy; omega⟩
      obtain ⟨cw, H2, e2, x2, o2⟩ := run_cloneI (base := base) (hL1.low (Nat.zero_le _)) hsmall
      have hl2 := x2.len
      have ocw := o2.one
      obtain ⟨v', H3, ea, oV, hle, hE, hV1⟩ := o2.append1 (y := (x : Int)) (base := base) (t := 25) rfl rfl Fc.el25 encI_sc (by have := x1.len; omega) hl2 (by omega)
      have x3 : Ext H1 H3 := hE H1 (Nat.le_refl _) x2
      have hl3 := x3.len
      have k3 : KeepX O H1 H3 := .ofExt x3
      have hs2 : ∀ y ∈ l ++ [(x : Int)], 0 ≤ y ∧ y < (L.C.length : Int) := fun y hy => by
        rcases List.mem_append.1 hy with q | q
        · exact hin y q
        · simp at q; omega
      obtain ⟨rv4, H4, e4, rfl, k4, i4⟩ := ih (l := l ++ [(x : Int)]) (a := a + j + 1) (lv := v') (H := H3) (o := (visF p (lexP (upto L.C.length) d l a j) o).2) (by simp; omega) (by omega) (oV.low (by omega)) hs2 (by omega) ((hF0.keep xK hO).keep k3 hO) (hi1.ext x3)
      have hjj : ((x : Int) + 1) = ((a + j + 1 : Nat) : Int) := by omega
      have g42 := x2.get q4
      have g43 := x3.get q4
      have hlow1 : refsLow H1.length (mrV M O S D R) := by
        have a1 := lt_of_get q1
        have a2 := lt_of_get q2
        have a3 := lt_of_get q3
        have a4 := lt_of_get q4
        have a5 : O < H1.length := by omega
        simp [refsLow, mrV, AVal.refs, refsL, a1, a2, a3, a4, a5]
      have hsp := visF_app (p := p) (a := lexP (upto L.C.length) d l a j) (b := lexC (upto L.C.length) d (l ++ [(x : Int)]) (a + j + 1)) (o := o)
      have hgx : (upto L.C.length).getD (a + j) 0 = (x : Int) := by rw [upto_getD (by omega), ex]
      rw [← hgx, ← lexP_succ, hgx, if_neg (by simp [hv])] at hsp
      rw [← hsp] at e4 i4
      obtain ⟨res, eres⟩ : ∃ res, res = visF p (lexP (upto L.C.length) d l a (j + 1)) o := ⟨_, rfl⟩
      rw [← eres] at e4 i4 ⊢
      have r10' : fr 10 = .int .i64 (x : Int) := by rw [r10, ex]
      have hom : One (mrV M O S D R) := ⟨rfl, rfl, rfl⟩
      unfold mrB at q4 g42 g43
      have hom4 := hV1
      refine WP_wild [⟨0, 73, 6, ⟨R, 0, 0⟩, mrV M O S D R, 8⟩] (by kernel_rfl) (by kernel_rfl) (by kernel_rfl) ⟨hlow1, trivial⟩ fun K hK => ?_
      iterate 9
        rw [TRS_cons]
        refine ⟨by first | (simp (disch := first | exact dschL38 | fail) only [go_sem, ↓reduceIte, r10', q0, q5, q6, q4, g42, g43, e2, ea, hjj, e4, ldsQ_cons, ldsQ_nil, grdQ_cons, grdQ_nil, if_true, Nat.reduceLeDiff]; done) | exact trivial, ?_⟩
        simp (disch := first | exact dschL38 | fail) only [go_sem, ↓reduceIte, r10', q0, q5, q6, q4, g42, g43, e2, ea, hjj, e4]
      rw [TRS_nil]
      refine ⟨by first | (simp (disch := first | exact dschL38 | fail) only [go_sem, ↓reduceIte, r10', q0, q5, q6, q4, g42, g43, e2, ea, hjj, e4, ldsQ_cons, ldsQ_nil, grdQ_cons, grdQ_nil, if_true, Nat.reduceLeDiff]; done) | exact trivial, ?_⟩
      subst hK
      have hkf : KeepX O H H4 := (xK.trans k3).trans k4
      cases hres : res.1 with
      | true =>
        have hwh : visF p (lexC (upto L.C.length) (d + 1) l a) o = res := by
          obtain ⟨s, e⟩ := lexP_pre (of := upto L.C.length) (l := l) (d := d) (a := a) (j := j + 1) ((upto L.C.length).length - a - (j + 1))
          rw [show j + 1 + ((upto L.C.length).length - a - (j + 1)) = (upto L.C.length).length - a by rw [upto_len]; omega] at e
          show visF p (lexP (upto L.C.length) d l a ((upto L.C.length).length - a)) o = res
          rw [e, visF_app, if_pos (by rw [← eres]; exact hres), eres]
        have hsp := @Nat.succ_ne_zero; repeat' (first | simp (disch := first | exact dschL38 | fail) only [go_sem, ↓reduceIte, hsp, q0, q5, q6, hres] | refine WP_drw ?_ | refine cnd_intro (fun hsp => ?_) fun hsp => ?_)
        rw [hwh]
        exact ⟨by rw [hres], hkf, i4⟩
      | false =>
        have hsp := @Nat.succ_ne_zero; repeat' (first | simp (disch := first | exact dschL38 | fail) only [go_sem, ↓reduceIte, hsp, r10, q0, q5, q6, hres] | refine WP_drw ?_ | refine cnd_intro (fun hsp => ?_) fun hsp => ?_)
        exact ⟨by (repeat first | exact Agree.refl | assumption | refine Agree.put rfl ?_ | refine Agree.put0 ?_ | refine Agree.sub rfl (by assumption) ?_), by first | rfl | omega, hkf, i4⟩
    · rintro fr H1 hA ⟨r10, xK, hv, hi1⟩
      have q0 := hA 0 rfl
      have q5 := hA 5 rfl
      have q6 := hA 6 rfl
      try simp (disch := first | exact dschL38 | fail) only [go_sem, ↓reduceIte] at q0 q5 q6
      obtain ⟨x1, _, q1, q2, q3, q4⟩ := hF0.keep xK hO
      have hlt : (((a + (L.C.length - a) : Nat) : Int) < (L.C.length : Int)) = False := eq_false (by omega)
      obtain ⟨cv, rv, hdg, hC, -⟩ := hD.ext x1
      have lc := ld_cards hdg
      have hlc := lenI hC
      have oc := hC.one
      unfold pB at q3
      have hsp := @Nat.succ_ne_zero; repeat' (first | simp (disch := first | exact dschL38 | fail) only [go_sem, ↓reduceIte, hsp, r10, q0, q5, q6, q3, lc, hlc, hlt] | refine WP_drw ?_ | refine cnd_intro (fun hsp => ?_) fun hsp => ?_)
      have hex : visF p (lexC (upto L.C.length) (d + 1) l a) o = visF p (lexP (upto L.C.length) d l a (L.C.length - a)) o := by
        show visF p (lexP (upto L.C.length) d l a ((upto L.C.length).length - a)) o = _
        rw [upto_len]
      rw [hex]
      exact ⟨by rw [hv], xK, hi1⟩
end
end Go.AM
/-
  Contracts: first.
-/
namespace Go.AM
open Go.Proofs.Try
theorem dschL39 {p : Prop} (h : p := by first | exact Nat.ne_of_beq_eq_false rfl | assumption | (apply asOne; (first | exact One.int | exact One.bool | assumption | exact Ints.one (by assumption) | exact Rows.one (by assumption) | exact Own.one (by assumption) | exact One.lit ⟨rfl, rfl, rfl⟩)) | (apply asInts; (repeat first | assumption | exact ints_nil | apply Ints.app); done) | (apply asRows; (repeat first | assumption | exact Rows.nil | apply Rows.app); done) | (apply asScal; (first | apply allS1 | apply allS2 | apply allS3 | apply allS4) <;> (first | exact One.int | exact One.bool | assumption | exact Ints.one (by assumption) | exact Rows.one (by assumption) | exact Own.one (by assumption) | exact One.lit ⟨rfl, rfl, rfl⟩)) | exact litT rfl | exact litF rfl | omega | (simp only [List.length_append, List.length_cons, List.length_nil, List.length_set, List.length_reverse]; first | done | omega) | fail) : p := h
attribute [-go_sem] put_ne put_same
attribute [local go_sem ↓] put_if
/-- The lists of fewer than i positions. -/
def preS (n i : Nat) : List (List Int) := (List.range i).flatMap fun m => lexC (upto n) m [] 0
theorem preS_succ {n i : Nat} : preS n (i + 1) = preS n i ++ lexC (upto n) i [] 0 := by unfold preS; rw [List.range_succ, List.flatMap_append]; simp
theorem preS_all {n : Nat} : preS n (n + 1) = allS n := rfl
theorem preS_pre {n i : Nat} : ∀ k, ∃ s, preS n (i + k) = preS n i ++ s
  | 0 => ⟨[], by simp⟩
  | k + 1 => by
    obtain ⟨s, e⟩ := preS_pre (n := n) (i := i) k
    exact ⟨s ++ lexC (upto n) (i + k) [] 0, by rw [show i + (k + 1) = (i + k) + 1 by omega, preS_succ, e, List.append_assoc]⟩
/-- What the search returns. -/
def ResI (b : Nat) (o : Option (List Int)) (H : Heap) (x : AVal) : Prop := match o with | none => x = .slice none 0 0 | some l => Own encI 3 b H x l
theorem OutI.res {b O : Nat} {o : Option (List Int)} {H : Heap} (x : OutI O o H) (hb : b ≤ O) : ∃ v, H[O]? = some (lB v) ∧ One v ∧ ResI b o H v := by
  obtain ⟨v, h1, h2⟩ := x
  cases o with
  | none => exact ⟨v, h1, by rw [h2]; exact ⟨rfl, rfl, rfl⟩, h2⟩
  | some l => exact ⟨v, h1, Own.one h2, Own.low h2 (by omega)⟩
set_option maxRecDepth 100000 in
set_option maxHeartbeats 2000000 in
theorem run_first {base id : Nat} {h : Heap} {g : AVal} {L : Lac} {p : List Int → Bool} (hb : base ≤ h.length) (hg : One g) (hD : DskAt h id L) (hn : L.C.length ≤ 7)
    (hcb : ∀ O H sv l, h.length ≤ O → Ext h H → O < H.length → Own encI 3 (O + 1) H sv l → (∀ x ∈ l, 0 ≤ x ∧ x < (L.C.length : Int)) → l.length ≤ L.C.length → callL prog raw base g [sv] H = some (.bool (p l), H)) :
    Ret prog raw base (.fn 117 [] []) [.ptr (some ⟨id, 0, 0⟩), g] h (fun w H => Ext h H ∧ ∃ x, w = .tuple [x, .bool (visF p (allS L.C.length) none).1] ∧ ResI h.length (visF p (allS L.C.length) none).2 H x) := by
  obtain ⟨n, en⟩ : ∃ n, L.C.length = n := ⟨_, rfl⟩
  obtain ⟨G, eG⟩ : ∃ G, G = h ++ [pB id] ++ [fnB g] ++ [lB (.slice none 0 0)] := ⟨_, rfl⟩
  have xG : Ext h G := by rw [eG]; exact .app (.app (.app .refl))
  have lG : G.length = h.length + 3 := by rw [eG]; simp
  have gD : G[h.length]? = some (pB id) := by rw [eG]; exact get_app (get_app (get_eq rfl))
  have gS : G[h.length + 1]? = some (fnB g) := by rw [eG]; exact get_app (get_eq (by simp))
  have gO : G[h.length + 1 + 1]? = some (lB (.slice none 0 0)) := by rw [eG]; exact get_eq (by simp)
  obtain ⟨cv, rv, hdg, hC, -⟩ := hD.ext xG
  have lc := ld_cards hdg
  have hlc := lenI hC
  rw [en] at hlc
  have oc := hC.one
  have gD' := gD
  unfold pB fnB lB at eG
  unfold pB at gD'
  obtain ⟨O, eO⟩ : ∃ O, O = h.length + 1 + 1 := ⟨_, rfl⟩
  rw [← eO] at gO
  refine ret_raw func117 rfl (by kernel_rfl) ?_
  have hsp := @Nat.succ_ne_zero; repeat' (first | simp (disch := first | exact dschL39 | fail) only [go_sem, ↓reduceIte, hsp, ← eG, gD', lc, hlc, ← eO] | refine WP_drw ?_ | refine cnd_intro (fun hsp => ?_) fun hsp => ?_)
  refine WP_count [(7, 9), (17, 24)] 0 (n + 1) (Nat.zero_le _) (fun _ i fr K => fr 17 = .int .i64 (i : Int) ∧ fr 7 = .bool false ∧ KeepX O G K ∧ (visF p (preS n i) none).1 = false ∧ OutI O (visF p (preS n i) none).2 K) ?_ ?_ ?_
  · exact ⟨by (simp (disch := first | exact dschL39 | fail) only [go_sem, ↓reduceIte, Int.natCast_zero]; first | done | rfl), by simp (disch := first | exact dschL39 | fail) only [go_sem, ↓reduceIte], .refl, rfl, _, gO, rfl⟩
  · rintro i fr K hi0 hi hA ⟨r17, r7, kK, hv, hI⟩
    have q2 := hA 2 rfl
    have q3 := hA 3 rfl
    have q4 := hA 4 rfl
    have q5 := hA 5 rfl
    have q6 := hA 6 rfl
    have q16 := hA 16 rfl
    try simp (disch := first | exact dschL39 | fail) only [go_sem, ↓reduceIte] at q2 q3 q4 q5 q6 q16
    have hlt : ((i : Int) < (n : Int) + 1) = True := eq_true (by omega)
    have lK := kK.1
    obtain ⟨K1, eK1⟩ : ∃ K1, K1 = K ++ [nB (i : Int)] ++ [mrB (mrV K.length O (h.length + 1) h.length (K.length + 1))] := ⟨_, rfl⟩
    have x1 : Ext K K1 := by rw [eK1]; exact .app (.app .refl)
    have l1 : K1.length = K.length + 2 := by rw [eK1]; simp
    have gM : K1[K.length]? = some (nB (i : Int)) := by rw [eK1]; exact get_app (get_eq rfl)
    have gR : K1[K.length + 1]? = some (mrB (mrV K.length O (h.length + 1) h.length (K.length + 1))) := by rw [eK1]; exact get_eq (by simp)
    have hF : FrsAt h K1 K.length O (h.length + 1) h.length (K.length + 1) i id g := ⟨(kK.ext xG (by omega)).trans x1, ⟨by omega, by omega, by omega, by omega⟩, gM, x1.get (kK.2 _ _ (by omega) gS), x1.get (kK.2 _ _ (by omega) gD), gR⟩
    obtain ⟨w2, K2, e2, rfl, k2, i2⟩ := run_frs1 (base := base) (M := K.length) (O := O) (S := h.length + 1) (D := h.length) (R := K.length + 1) (many := i) (p := p) hb hg (by omega) hD hn (fun H sv l y1 y2 => hcb O H sv l (by omega) y1 y2) (by omega) i (l := []) (a := 0) (lv := .slice none 0 0) (H := K1) (o := (visF p (preS n i) none).2) (by simp) (by omega) Own.nil (fun x hx => by cases hx) (Nat.zero_le _) hF (hI.ext x1)
    have hsp := visF_app (p := p) (a := preS n i) (b := lexC (upto n) i [] 0) (o := none)
    rw [← preS_succ, if_neg (by simp [hv])] at hsp
    rw [en, ← hsp] at e2 i2
    have hkf : KeepX O G K2 := (kK.trans (.ofExt x1)).trans k2
    unfold nB mrB at eK1
    unfold mrB at gR
    unfold mrV at e2 eK1 gR
    obtain ⟨res, eres⟩ : ∃ res, res = visF p (preS n (i + 1)) none := ⟨_, rfl⟩
    rw [← eres] at e2 i2 ⊢
    rw [Int.natCast_zero] at e2
    cases hres : res.1 with
    | true =>
      rw [hres] at e2
      obtain ⟨v, g1, g2, g3⟩ := i2.res (b := h.length) (by omega)
      have hwh : visF p (allS n) none = res := by
        obtain ⟨s, e⟩ := preS_pre (n := n) (i := i + 1) (n - i)
        rw [show i + 1 + (n - i) = n + 1 by omega] at e
        rw [← preS_all, e, visF_app, if_pos (by rw [← eres]; exact hres), eres]
      rw [en, hwh]
      unfold lB at g1
      have hsp := @Nat.succ_ne_zero; repeat' (first | simp (disch := first | exact dschL39 | fail) only [go_sem, ↓reduceIte, hsp, r17, q2, q3, q4, q5, q6, q16, hlt, ← eK1, gR, e2, g1] | refine WP_drw ?_ | refine cnd_intro (fun hsp => ?_) fun hsp => ?_)
      exact ⟨hkf.ext xG (by omega), v, by rw [hres], g3⟩
    | false =>
      rw [hres] at e2
      have hsp := @Nat.succ_ne_zero; repeat' (first | simp (disch := first | exact dschL39 | fail) only [go_sem, ↓reduceIte, hsp, r17, q2, q3, q4, q5, q6, q16, hlt, ← eK1, gR, e2] | refine WP_drw ?_ | refine cnd_intro (fun hsp => ?_) fun hsp => ?_)
      exact ⟨by (repeat first | exact Agree.refl | assumption | refine Agree.put rfl ?_ | refine Agree.put0 ?_ | refine Agree.sub rfl (by assumption) ?_), by omega, hkf, i2⟩
  · rintro fr K hA ⟨r17, r7, kK, hv, hI⟩
    have q2 := hA 2 rfl
    have q3 := hA 3 rfl
    have q4 := hA 4 rfl
    have q5 := hA 5 rfl
    have q6 := hA 6 rfl
    have q16 := hA 16 rfl
    try simp (disch := first | exact dschL39 | fail) only [go_sem, ↓reduceIte] at q2 q3 q4 q5 q6 q16
    have hlt : (((n + 1 : Nat) : Int) < (n : Int) + 1) = False := eq_false (by omega)
    obtain ⟨v, g1, g2, g3⟩ := hI.res (b := h.length) (by omega)
    rw [preS_all] at hv g3
    rw [en]
    unfold lB at g1
    have hsp := @Nat.succ_ne_zero; repeat' (first | simp (disch := first | exact dschL39 | fail) only [go_sem, ↓reduceIte, hsp, r17, r7, q2, q3, q4, q5, q6, q16, hlt, g1] | refine WP_drw ?_ | refine cnd_intro (fun hsp => ?_) fun hsp => ?_)
    exact ⟨kK.ext xG (by omega), v, by rw [hv], g3⟩
end Go.AM
/-
  Contracts: a gap (Gap).
-/
namespace Go.AM
open Go.Proofs.Try
attribute [-go_sem] put_ne put_same
attribute [local go_sem ↓] put_if
def gapE (L : Lac) : Int := if chkL L = 0 then (if gapO L = none then 6 else 0) else chkL L
end Go.AM
/-
  Maps from arrays of numbers to truth values.
-/
namespace Go.AM
open Go.Proofs.Try
attribute [-go_sem] put_ne put_same
attribute [local go_sem ↓] put_if
theorem eqI2 {d : Nat} {a b : Int} : eqT prog (d + 1) 3 (.int .i64 a) (.int .i64 b) = some (decide (a = b)) := by
  have hu : prog.underlying 3 = some (.int .i64) := by kernel_rfl
  simp only [eqT, hu, if_true]
  by_cases h : a = b <;> simp [h]
theorem eqA7 {a b : List Int} (ha : a.length = 7) (hb : b.length = 7) : eqT prog eqDepth 157 (.agg (ints a)) (.agg (ints b)) = some (decide (a = b)) := by
  have hu : prog.underlying 157 = some (.array 7 3) := by kernel_rfl
  have ht : tyA prog 3 = some (false, 1) := by kernel_rfl
  match a, b, ha, hb with
  | [a0, a1, a2, a3, a4, a5, a6], [b0, b1, b2, b3, b4, b5, b6], _, _ =>
    simp only [eqDepth, eqT, hu, ht, show List.range 7 = [0, 1, 2, 3, 4, 5, 6] from rfl, List.foldr, partQ, ints, List.map, Nat.mul_one, List.getElem?_cons_zero, List.getElem?_cons_succ, eqI2, if_false, Bool.false_eq_true]
    by_cases h0 : a0 = b0
    · by_cases h1 : a1 = b1
      · by_cases h2 : a2 = b2
        · by_cases h3 : a3 = b3
          · by_cases h4 : a4 = b4
            · by_cases h5 : a5 = b5
              · by_cases h6 : a6 = b6
                · simp [h0, h1, h2, h3, h4, h5, h6]
                · simp [h0, h1, h2, h3, h4, h5, h6]
              · simp [h0, h1, h2, h3, h4, h5]
            · simp [h0, h1, h2, h3, h4]
          · simp [h0, h1, h2, h3]
        · simp [h0, h1, h2]
      · simp [h0, h1]
    · simp [h0]
theorem keyA7 {a : List Int} (ha : a.length = 7) : keyOk prog eqDepth 157 (.agg (ints a)) = true := by
  match a, ha with
  | [a0, a1, a2, a3, a4, a5, a6], _ =>
    show keyOk prog eqDepth 157 (.agg (ints [a0, a1, a2, a3, a4, a5, a6])) = true
    kernel_rfl
def mpK (ks : List (List Int)) : List (AVal × AVal) := ks.map fun k => (.agg (ints k), .bool true)
theorem find_A7 {k : List Int} (hk : k.length = 7) : ∀ {ks : List (List Int)}, (∀ x ∈ ks, x.length = 7) → findA prog 157 (.agg (ints k)) (mpK ks) = some (if k ∈ ks then some (ks.idxOf k) else none)
  | [], _ => rfl
  | x :: ks, h => by
    have ih := find_A7 hk (ks := ks) fun y hy => h y (by simp [hy])
    rw [show mpK (x :: ks) = (.agg (ints x), .bool true) :: mpK ks from rfl, findA, eqA7 hk (h x (by simp)), ih]
    by_cases e : k = x
    · subst e; simp
    · have e2 : ¬ x = k := fun q => e q.symm
      have e3 : (x == k) = false := by simp [e2]
      rw [decide_eq_false e]
      simp only [List.mem_cons, e, false_or, List.idxOf_cons, e3]
      by_cases m : k ∈ ks <;> simp [m]
theorem look_K {H : Heap} {m : Nat} {k : List Int} {ks : List (List Int)} (hm : H[m]? = some ⟨.map (mpK ks), 0⟩) (hk : k.length = 7) (h : ∀ x ∈ ks, x.length = 7) : lookupA prog H 156 (.map (some m)) (.agg (ints k)) false = some (.bool (decide (k ∈ ks))) := by
  have zb : zvA prog 4 = some (.bool false) := by kernel_rfl
  simp only [lookupA, Fc.mp156, entriesA, hm, keyA7 hk, if_true, find_A7 hk h]
  by_cases e : k ∈ ks
  · rw [if_pos e, decide_eq_true e]
    have hi : ks.idxOf k < ks.length := List.idxOf_lt_length_iff.2 e
    simp only [mpK, List.getElem?_map, List.getElem?_eq_getElem hi, Option.map_some]
    rfl
  · rw [if_neg e, decide_eq_false e]
    simp only [zb]
    rfl
theorem upd_K {base : Nat} {H : Heap} {m : Nat} {k : List Int} {ks : List (List Int)} (hb : base ≤ m) (hm : H[m]? = some ⟨.map (mpK ks), 0⟩) (hk : k.length = 7) (h : ∀ x ∈ ks, x.length = 7) (hn : k ∉ ks) : mapUpdateA prog base H 156 (.map (some m)) (.agg (ints k)) (.bool true) = some (H.set m ⟨.map (mpK (ks ++ [k])), 0⟩) := by
  simp only [mapUpdateA, Fc.mp156, hm, keyA7 hk, find_A7 hk h]
  rw [if_pos ⟨trivial, .inl hb⟩, if_neg hn]
  simp only [mpK, List.map_append, List.map_cons, List.map_nil]
theorem upd_K2 {base : Nat} {H : Heap} {m : Nat} {k : List Int} {ks : List (List Int)} (hb : base ≤ m) (hm : H[m]? = some ⟨.map (mpK ks), 0⟩) (hk : k.length = 7) (h : ∀ x ∈ ks, x.length = 7) (hn : k ∈ ks) : ∃ es, mapUpdateA prog base H 156 (.map (some m)) (.agg (ints k)) (.bool true) = some (H.set m ⟨.map es, 0⟩) := by
  simp only [mapUpdateA, Fc.mp156, hm, keyA7 hk, find_A7 hk h]
  rw [if_pos ⟨trivial, .inl hb⟩, if_pos hn]
  have hi : ks.idxOf k < ks.length := List.idxOf_lt_length_iff.2 hn
  have e1 : ((mpK ks)[ks.idxOf k]?).map (·.1) = some (.agg (ints k)) := by
    simp only [mpK, List.getElem?_map, List.getElem?_eq_getElem hi, Option.map_some]
    rw [List.getElem_idxOf hi]
  simp only [e1, if_true]
  exact ⟨_, rfl⟩
end Go.AM
/-
  (The heap behind a spool that was turned, own rows: G1.)
-/
/-
  Contracts: short lists of integers are sorted in place (slices.Sort, at most 12 elements).
-/
namespace Go.AM
open Go.Proofs.Try
attribute [-go_sem] put_ne put_same
attribute [local go_sem ↓] put_if
theorem ev_str {fr : AFrame} {s : ByteArray} : ev fr (.const (.string s)) = .str s := rfl
/-! ### The length in bits -/
def lenT (n : Nat) : Nat := [0, 1, 2, 2, 3, 3, 3, 3, 4, 4, 4, 4, 4].getD n 0
/-! ### Insertion -/
/-- Sorted up to i, but for what comes before j. -/
def Srt (m : List Int) (i j : Nat) : Prop := ∀ a b, a < b → b ≤ i → b ≠ j → m.getD a 0 ≤ m.getD b 0
def swp (m : List Int) (j : Nat) : List Int := (m.set (j + 1) (m.getD j 0)).set j (m.getD (j + 1) 0)
theorem getD_setI {l : List Int} {i j : Nat} {b : Int} (hi : i < l.length) : (l.set i b).getD j 0 = if i = j then b else l.getD j 0 := by
  rw [List.getD_eq_getElem?_getD, List.getElem?_set, List.getD_eq_getElem?_getD]
  by_cases e : i = j
  · subst e; simp [hi]
  · simp [e]
abbrev srB (m : List Int) (e : TypeId) (ver : Nat) : ABlk := ⟨.cells (ints m) e true false, ver⟩
/-- A list of integers, sorted. -/
def srtL (l : List Int) : List Int := l.mergeSort fun a b => decide (a ≤ b)
end Go.AM
/-
  Contracts: numbers in some order.
-/
namespace Go.AM
open Go.Proofs.Try
attribute [-go_sem] put_ne put_same
attribute [local go_sem ↓] put_if
theorem rep_zero : ∀ n, repCells [AVal.int .i64 0] n = ints (List.replicate n 0)
  | 0 => rfl
  | n + 1 => by rw [repCells, rep_zero n]; rfl
end Go.AM
