/-
  Plain: looms, and where the first element lies of which something holds.
-/
import Derived.Test.YtlhmeoeamcgcmaaGreatA8
import Derived.Test.YtlhmeoeamcgcmaaGreatKJ
set_option linter.unusedSimpArgs false
set_option linter.unusedVariables false
namespace Go.AM
/-- Where the first one lies. -/
def idx {α : Type} (p : α → Bool) : List α → Int
  | [] => -1
  | x :: xs => if p x = true then 0 else (if idx p xs < 0 then -1 else idx p xs + 1)
section
variable {α : Type} (p : α → Bool)
theorem idx_ge : ∀ l, -1 ≤ idx p l
  | [] => by simp [idx]
  | x :: xs => by
    have := idx_ge xs
    simp only [idx]; split
    · omega
    · split <;> omega
theorem idx_any : ∀ l, (0 ≤ idx p l) ↔ l.any p = true
  | [] => by simp [idx]
  | x :: xs => by
    have := idx_any xs
    have h0 := idx_ge p xs
    simp only [idx, List.any_cons]
    by_cases h : p x = true
    · simp [h]
    · simp only [h, if_false, Bool.false_or, Bool.false_eq_true]
      rw [← this]; split <;> omega
theorem idx_drop : ∀ (l : List α) (n : Nat), (∀ x ∈ l.take n, p x = false) → n ≤ l.length → idx p l = (if idx p (l.drop n) < 0 then -1 else idx p (l.drop n) + n)
  | l, 0, _, _ => by
    have := idx_ge p l
    simp only [List.drop_zero]; split <;> omega
  | [], n + 1, _, hn => by simp at hn
  | x :: xs, n + 1, hp, hn => by
    have h1 : p x = false := hp x (by simp)
    have ih := idx_drop xs n (fun y hy => hp y (by simp [hy])) (by simpa using hn)
    simp only [idx, h1, Bool.false_eq_true, if_false, List.drop_succ_cons]
    have h0 := idx_ge p (xs.drop n)
    rw [ih]
    split <;> rename_i h2 <;> split <;> rename_i h3 <;> (try split at h2) <;> (try split at h3) <;> (try omega) <;> (try split) <;> (try omega)
theorem idx_hit {l : List α} {n : Nat} (hn : n < l.length) (hb : ∀ x ∈ l.take n, p x = false) (hp : p l[n] = true) : idx p l = n := by
  rw [idx_drop p l n hb (by omega), List.drop_eq_getElem_cons hn]
  simp [idx, hp]
theorem idx_miss {l : List α} (hb : ∀ x ∈ l.take l.length, p x = false) : idx p l = -1 := by
  rw [idx_drop p l l.length hb (Nat.le_refl _)]
  simp [idx]
theorem take_next {l : List α} {n : Nat} (hn : n < l.length) (hb : ∀ x ∈ l.take n, p x = false) (hp : p l[n] = false) : ∀ x ∈ l.take (n + 1), p x = false := fun x hx => by
  rw [List.take_add_one, List.getElem?_eq_getElem hn] at hx
  simp only [Option.toList, List.mem_append, List.mem_singleton] at hx
  rcases hx with hx | rfl
  · exact hb x hx
  · exact hp
end
/-! ### Looms -/
structure Prt where
  rib : List Int
  each : Int
  ph : Int
  wv : Bool
structure Sgt where
  rib : Int
  lo : Int
  hi : Int
  bad : Bool
structure Lom where
  R : Int
  T : Int
  ps : List Prt
  ss : List Sgt
/-- A part in memory: its slice of ribbons, and the rest. -/
structure PrtV where
  v : AVal
  each : Int
  ph : Int
  wv : Bool
def norm (v : AVal) : AVal := if v.scalar = true then v else .ptr none
theorem norm_one {v : AVal} (h : One v) : norm v = v := by unfold norm; rw [if_pos h.2.2]
def encP : Enc PrtV := ⟨4, fun p => [norm p.v, .int .i64 p.each, .int .i64 p.ph, .bool p.wv], fun _ => rfl, by decide⟩
def encS : Enc Sgt := ⟨4, fun s => [.int .i64 s.rib, .int .i64 s.lo, .int .i64 s.hi, .bool s.bad], fun _ => rfl, by decide⟩
/-- Breaks: part, from, to. -/
def encB : Enc (Int × Int × Int) := ⟨3, fun b => [.int .i64 b.1, .int .i64 b.2.1, .int .i64 b.2.2], fun _ => rfl, by decide⟩
/-- Spots: ribbon, throw. -/
def encT : Enc (Int × Int) := ⟨2, fun b => [.int .i64 b.1, .int .i64 b.2], fun _ => rfl, by decide⟩
theorem encP_sc : ∀ y, (encP.cells y).all AVal.scalar = true := fun y => by
  have : (norm y.v).scalar = true := by unfold norm; split <;> simp_all [AVal.scalar]
  simp only [encP, List.all_cons, this, List.all_nil]
  rfl
theorem encS_sc : ∀ y, (encS.cells y).all AVal.scalar = true := fun y => by simp [encS, AVal.scalar]
theorem encB_sc : ∀ y, (encB.cells y).all AVal.scalar = true := fun y => by simp [encB, AVal.scalar]
theorem encT_sc : ∀ y, (encT.cells y).all AVal.scalar = true := fun y => by simp [encT, AVal.scalar]
/-- A slice of parts. -/
def Parts (h : Heap) (v : AVal) (ps : List Prt) : Prop := ∃ vs : List PrtV, Rows encP h v vs ∧ vs.length = ps.length ∧ ∀ (i : Nat) x p, vs[i]? = some x → ps[i]? = some p → Ints h x.v p.rib ∧ x.each = p.each ∧ x.ph = p.ph ∧ x.wv = p.wv
theorem Parts.ext {h H : Heap} {v : AVal} {ps : List Prt} (x : Parts h v ps) (e : Ext h H) : Parts H v ps := by
  obtain ⟨vs, h1, h2, h3⟩ := x
  exact ⟨vs, h1.ext e, h2, fun i x p a b => ⟨(h3 i x p a b).1.ext e, (h3 i x p a b).2⟩⟩
/-- A loom. -/
def LomAt (h : Heap) (v : AVal) (L : Lom) : Prop := ∃ pv sv, v = .agg [.int .i64 L.R, .int .i64 L.T, pv, sv] ∧ Parts h pv L.ps ∧ Rows encS h sv L.ss
theorem LomAt.ext {h H : Heap} {v : AVal} {L : Lom} (x : LomAt h v L) (e : Ext h H) : LomAt H v L := by
  obtain ⟨pv, sv, h1, h2, h3⟩ := x
  exact ⟨pv, sv, h1, h2.ext e, h3.ext e⟩
end Go.AM
/-
  Contracts: the first element of which something holds; whether it holds of some, of all (by wip/tools/every.py).
-/
namespace Go.AM
open Go.Proofs.Tryz
theorem dschE1 {p : Prop} (h : p := by first | exact Nat.ne_of_beq_eq_false rfl | assumption | (apply asOne; (first | exact One.int | exact One.bool | assumption | exact Ints.one (by assumption) | exact Rows.one (by assumption) | exact Own.one (by assumption) | exact One.lit ⟨rfl, rfl, rfl⟩)) | (apply asInts; (repeat first | assumption | exact ints_nil | apply Ints.app); done) | (apply asRows; (repeat first | assumption | exact Rows.nil | apply Rows.app); done) | (apply asScal; (first | apply allS1 | apply allS2 | apply allS3 | apply allS4) <;> (first | exact One.int | exact One.bool | assumption | exact Ints.one (by assumption) | exact Rows.one (by assumption) | exact Own.one (by assumption) | exact One.lit ⟨rfl, rfl, rfl⟩)) | exact litT rfl | exact litF rfl | omega | (simp only [List.length_append, List.length_cons, List.length_nil, List.length_set, List.length_reverse]; first | done | omega) | fail) : p := h
theorem idxF_P {base : Nat} {h : Heap} {v g : AVal} {l : List (PrtV)} (p : PrtV → Bool) (hR : Rows encP h v l) (hg : ∀ base x, x ∈ l → callL prog raw base g [.agg (encP.cells x)] h = some (.bool (p x), h)) :
    callL prog raw base (.fn 181 [] []) [v, g] h = some (.int .i64 (idx p l), h) := by
  have hb : l.length < 2 ^ 60 := hR.1
  refine callL_run func181 rfl rfl ?_
  have hsp := @Nat.succ_ne_zero; repeat' (first | simp (disch := first | exact dschE1 | fail) only [go_sem, hsp, hR.len Fc.el22] | refine WP_drw ?_ | refine cnd_intro (fun hsp => ?_) fun hsp => ?_)
  refine WP_loop (fun σ => ∃ n : Nat, σ.fr 8 = .int .i64 (n : Int) ∧ σ.fr 0 = v ∧ σ.fr 1 = g ∧ σ.fr 7 = .int .i64 (l.length : Int) ∧ σ.h = h ∧ n ≤ l.length ∧ (∀ x ∈ l.take n, p x = false)) (fun σ => match σ.fr 8 with | .int _ x => (((l.length : Nat) : Int) - x).toNat | _ => 0) ?_ ?_
  · refine ⟨0, ?_, ?_, ?_, ?_, ?_, by omega, ?_⟩
    iterate 5 focus (first | rfl | (simp (disch := first | exact dschE1 | fail) only [go_sem, Int.natCast_zero]; first | done | rfl))
    intro x hx; simp at hx
  · rintro ⟨fr, hp⟩ ⟨n, r8, r0, r1, r7, rh, hi, hP⟩
    dsimp only at r8 r0 r1 r7 rh hi hP
    subst rh
    by_cases hn : n < l.length
    · have hlt : ((n : Int) < (l.length : Int)) = True := eq_true (by omega)
      have hx : l[n]? = some l[n] := List.getElem?_eq_getElem hn
      have had := hR.addr (i := (n : Int)) Fc.el22 Fc.ar22 (by omega) (by omega)
      rw [Int.toNat_natCast] at had
      have hld := hR.load Fc.ty81 hx
      have hc := fun base => hg base l[n] (List.getElem_mem hn)
      cases hp : p l[n] with
      | true =>
        rw [hp] at hc
        have hsp := @Nat.succ_ne_zero; repeat' (first | simp (disch := first | exact dschE1 | fail) only [go_sem, hsp, r8, r0, r1, r7, hlt, had, hld, hc] | refine WP_drw ?_ | refine cnd_intro (fun hsp => ?_) fun hsp => ?_)
        rw [idx_hit p hn hP hp]
        all_goals (first | refine fI ?_ | refine fB ?_ | refine fII ?_ ?_ | refine fBI ?_ ?_ | refine fIII ?_ ?_ ?_ | refine fIIB ?_ ?_ ?_ | skip); all_goals (try dsimp only); all_goals (try with_reducible rfl); all_goals (try omega)
      | false =>
        rw [hp] at hc
        have hsp := @Nat.succ_ne_zero; repeat' (first | simp (disch := first | exact dschE1 | fail) only [go_sem, hsp, r8, r0, r1, r7, hlt, had, hld, hc] | refine WP_drw ?_ | refine cnd_intro (fun hsp => ?_) fun hsp => ?_)
        exact ⟨⟨n + 1, by simp, by omega, take_next p hn hP hp⟩, by omega⟩
    · have hlt : ((n : Int) < (l.length : Int)) = False := eq_false (by omega)
      obtain rfl : n = l.length := by omega
      have hsp := @Nat.succ_ne_zero; repeat' (first | simp (disch := first | exact dschE1 | fail) only [go_sem, hsp, r8, r0, r1, r7, hlt] | refine WP_drw ?_ | refine cnd_intro (fun hsp => ?_) fun hsp => ?_)
      rw [idx_miss p hP]
      all_goals (first | refine fI ?_ | refine fB ?_ | refine fII ?_ ?_ | refine fBI ?_ ?_ | refine fIII ?_ ?_ ?_ | refine fIIB ?_ ?_ ?_ | skip); all_goals (try dsimp only); all_goals (try with_reducible rfl); all_goals (try omega)
theorem anyF_P {base : Nat} {h : Heap} {v g : AVal} {l : List (PrtV)} (p : PrtV → Bool) (hR : Rows encP h v l) (hg : ∀ base x, x ∈ l → callL prog raw base g [.agg (encP.cells x)] h = some (.bool (p x), h)) :
    callL prog raw base (.fn 156 [] []) [v, g] h = some (.bool (l.any p), h) := by
  have hi := fun base => idxF_P (base := base) p hR hg
  have h0 := idx_any p l
  refine callL_run func156 rfl rfl ?_
  have hsp := @Nat.succ_ne_zero; repeat' (first | simp (disch := first | exact dschE1 | fail) only [go_sem, hsp, hi] | refine WP_drw ?_ | refine cnd_intro (fun hsp => ?_) fun hsp => ?_)
  refine fB ?_
  by_cases h1 : l.any p = true
  · rw [h1]; simpa using h0.2 h1
  · have h2 : ¬ 0 ≤ idx p l := fun h => h1 (h0.1 h)
    simp only [Bool.not_eq_true] at h1
    rw [h1]; simpa using h2
theorem not_P {base id : Nat} {h : Heap} {g : AVal} {x : PrtV} {b : Bool} (hid : h[id]? = some ⟨.cells [g] 185 false false, 0⟩) (hg : ∀ base T, callL prog raw base g [.agg (encP.cells x)] (h ++ T) = some (.bool b, h ++ T)) :
    callL prog raw base (.fn 157 [] [.ptr (some ⟨id, 0, 0⟩)]) [.agg (encP.cells x)] h = some (.bool (!b), h) := by
  have hgi := lt_of_get hid
  simp only [encP] at hg ⊢
  refine callL_run func157 rfl rfl ?_
  have hsp := @Nat.succ_ne_zero; repeat' (first | simp (disch := first | exact dschE1 | fail) only [go_sem, hsp, hid, hg] | refine WP_drw ?_ | refine cnd_intro (fun hsp => ?_) fun hsp => ?_)
  exact fB rfl
theorem every_P {base : Nat} {h : Heap} {v g : AVal} {l : List (PrtV)} (p : PrtV → Bool) (hR : Rows encP h v l) (hg : ∀ base T x, x ∈ l → callL prog raw base g [.agg (encP.cells x)] (h ++ T) = some (.bool (p x), h ++ T)) (h1 : One g) :
    callL prog raw base (.fn 120 [] []) [v, g] h = some (.bool (l.all p), h) := by
  have hc := fun base => anyF_P (base := base) (fun x => !p x) hR.app (fun base x hx => not_P (x := x) (get_eq rfl) (fun base T => by have := hg base ([⟨.cells [g] 185 false false, 0⟩] ++ T) x hx; rwa [← List.append_assoc] at this))
  refine callL_run func120 rfl rfl ?_
  have hsp := @Nat.succ_ne_zero; repeat' (first | simp (disch := first | exact dschE1 | fail) only [go_sem, hsp, hc] | refine WP_drw ?_ | refine cnd_intro (fun hsp => ?_) fun hsp => ?_)
  refine fB ?_
  rw [List.any_eq_not_all_not]
  simp
theorem idxF_S {base : Nat} {h : Heap} {v g : AVal} {l : List (Sgt)} (p : Sgt → Bool) (hR : Rows encS h v l) (hg : ∀ base x, x ∈ l → callL prog raw base g [.agg (encS.cells x)] h = some (.bool (p x), h)) :
    callL prog raw base (.fn 182 [] []) [v, g] h = some (.int .i64 (idx p l), h) := by
  have hb : l.length < 2 ^ 60 := hR.1
  refine callL_run func182 rfl rfl ?_
  have hsp := @Nat.succ_ne_zero; repeat' (first | simp (disch := first | exact dschE1 | fail) only [go_sem, hsp, hR.len Fc.el23] | refine WP_drw ?_ | refine cnd_intro (fun hsp => ?_) fun hsp => ?_)
  refine WP_loop (fun σ => ∃ n : Nat, σ.fr 8 = .int .i64 (n : Int) ∧ σ.fr 0 = v ∧ σ.fr 1 = g ∧ σ.fr 7 = .int .i64 (l.length : Int) ∧ σ.h = h ∧ n ≤ l.length ∧ (∀ x ∈ l.take n, p x = false)) (fun σ => match σ.fr 8 with | .int _ x => (((l.length : Nat) : Int) - x).toNat | _ => 0) ?_ ?_
  · refine ⟨0, ?_, ?_, ?_, ?_, ?_, by omega, ?_⟩
    iterate 5 focus (first | rfl | (simp (disch := first | exact dschE1 | fail) only [go_sem, Int.natCast_zero]; first | done | rfl))
    intro x hx; simp at hx
  · rintro ⟨fr, hp⟩ ⟨n, r8, r0, r1, r7, rh, hi, hP⟩
    dsimp only at r8 r0 r1 r7 rh hi hP
    subst rh
    by_cases hn : n < l.length
    · have hlt : ((n : Int) < (l.length : Int)) = True := eq_true (by omega)
      have hx : l[n]? = some l[n] := List.getElem?_eq_getElem hn
      have had := hR.addr (i := (n : Int)) Fc.el23 Fc.ar23 (by omega) (by omega)
      rw [Int.toNat_natCast] at had
      have hld := hR.load Fc.ty56 hx
      have hc := fun base => hg base l[n] (List.getElem_mem hn)
      cases hp : p l[n] with
      | true =>
        rw [hp] at hc
        have hsp := @Nat.succ_ne_zero; repeat' (first | simp (disch := first | exact dschE1 | fail) only [go_sem, hsp, r8, r0, r1, r7, hlt, had, hld, hc] | refine WP_drw ?_ | refine cnd_intro (fun hsp => ?_) fun hsp => ?_)
        rw [idx_hit p hn hP hp]
        all_goals (first | refine fI ?_ | refine fB ?_ | refine fII ?_ ?_ | refine fBI ?_ ?_ | refine fIII ?_ ?_ ?_ | refine fIIB ?_ ?_ ?_ | skip); all_goals (try dsimp only); all_goals (try with_reducible rfl); all_goals (try omega)
      | false =>
        rw [hp] at hc
        have hsp := @Nat.succ_ne_zero; repeat' (first | simp (disch := first | exact dschE1 | fail) only [go_sem, hsp, r8, r0, r1, r7, hlt, had, hld, hc] | refine WP_drw ?_ | refine cnd_intro (fun hsp => ?_) fun hsp => ?_)
        exact ⟨⟨n + 1, by simp, by omega, take_next p hn hP hp⟩, by omega⟩
    · have hlt : ((n : Int) < (l.length : Int)) = False := eq_false (by omega)
      obtain rfl : n = l.length := by omega
      have hsp := @Nat.succ_ne_zero; repeat' (first | simp (disch := first | exact dschE1 | fail) only [go_sem, hsp, r8, r0, r1, r7, hlt] | refine WP_drw ?_ | refine cnd_intro (fun hsp => ?_) fun hsp => ?_)
      rw [idx_miss p hP]
      all_goals (first | refine fI ?_ | refine fB ?_ | refine fII ?_ ?_ | refine fBI ?_ ?_ | refine fIII ?_ ?_ ?_ | refine fIIB ?_ ?_ ?_ | skip); all_goals (try dsimp only); all_goals (try with_reducible rfl); all_goals (try omega)
theorem anyF_S {base : Nat} {h : Heap} {v g : AVal} {l : List (Sgt)} (p : Sgt → Bool) (hR : Rows encS h v l) (hg : ∀ base x, x ∈ l → callL prog raw base g [.agg (encS.cells x)] h = some (.bool (p x), h)) :
    callL prog raw base (.fn 158 [] []) [v, g] h = some (.bool (l.any p), h) := by
  have hi := fun base => idxF_S (base := base) p hR hg
  have h0 := idx_any p l
  refine callL_run func158 rfl rfl ?_
  have hsp := @Nat.succ_ne_zero; repeat' (first | simp (disch := first | exact dschE1 | fail) only [go_sem, hsp, hi] | refine WP_drw ?_ | refine cnd_intro (fun hsp => ?_) fun hsp => ?_)
  refine fB ?_
  by_cases h1 : l.any p = true
  · rw [h1]; simpa using h0.2 h1
  · have h2 : ¬ 0 ≤ idx p l := fun h => h1 (h0.1 h)
    simp only [Bool.not_eq_true] at h1
    rw [h1]; simpa using h2
theorem not_S {base id : Nat} {h : Heap} {g : AVal} {x : Sgt} {b : Bool} (hid : h[id]? = some ⟨.cells [g] 187 false false, 0⟩) (hg : ∀ base T, callL prog raw base g [.agg (encS.cells x)] (h ++ T) = some (.bool b, h ++ T)) :
    callL prog raw base (.fn 159 [] [.ptr (some ⟨id, 0, 0⟩)]) [.agg (encS.cells x)] h = some (.bool (!b), h) := by
  have hgi := lt_of_get hid
  simp only [encS] at hg ⊢
  refine callL_run func159 rfl rfl ?_
  have hsp := @Nat.succ_ne_zero; repeat' (first | simp (disch := first | exact dschE1 | fail) only [go_sem, hsp, hid, hg] | refine WP_drw ?_ | refine cnd_intro (fun hsp => ?_) fun hsp => ?_)
  exact fB rfl
theorem every_S {base : Nat} {h : Heap} {v g : AVal} {l : List (Sgt)} (p : Sgt → Bool) (hR : Rows encS h v l) (hg : ∀ base T x, x ∈ l → callL prog raw base g [.agg (encS.cells x)] (h ++ T) = some (.bool (p x), h ++ T)) (h1 : One g) :
    callL prog raw base (.fn 124 [] []) [v, g] h = some (.bool (l.all p), h) := by
  have hc := fun base => anyF_S (base := base) (fun x => !p x) hR.app (fun base x hx => not_S (x := x) (get_eq rfl) (fun base T => by have := hg base ([⟨.cells [g] 187 false false, 0⟩] ++ T) x hx; rwa [← List.append_assoc] at this))
  refine callL_run func124 rfl rfl ?_
  have hsp := @Nat.succ_ne_zero; repeat' (first | simp (disch := first | exact dschE1 | fail) only [go_sem, hsp, hc] | refine WP_drw ?_ | refine cnd_intro (fun hsp => ?_) fun hsp => ?_)
  refine fB ?_
  rw [List.any_eq_not_all_not]
  simp
theorem idxF_B {base : Nat} {h : Heap} {v g : AVal} {l : List (Int × Int × Int)} (p : Int × Int × Int → Bool) (hR : Rows encB h v l) (hg : ∀ base x, x ∈ l → callL prog raw base g [.agg (encB.cells x)] h = some (.bool (p x), h)) :
    callL prog raw base (.fn 183 [] []) [v, g] h = some (.int .i64 (idx p l), h) := by
  have hb : l.length < 2 ^ 60 := hR.1
  refine callL_run func183 rfl rfl ?_
  have hsp := @Nat.succ_ne_zero; repeat' (first | simp (disch := first | exact dschE1 | fail) only [go_sem, hsp, hR.len Fc.el60] | refine WP_drw ?_ | refine cnd_intro (fun hsp => ?_) fun hsp => ?_)
  refine WP_loop (fun σ => ∃ n : Nat, σ.fr 8 = .int .i64 (n : Int) ∧ σ.fr 0 = v ∧ σ.fr 1 = g ∧ σ.fr 7 = .int .i64 (l.length : Int) ∧ σ.h = h ∧ n ≤ l.length ∧ (∀ x ∈ l.take n, p x = false)) (fun σ => match σ.fr 8 with | .int _ x => (((l.length : Nat) : Int) - x).toNat | _ => 0) ?_ ?_
  · refine ⟨0, ?_, ?_, ?_, ?_, ?_, by omega, ?_⟩
    iterate 5 focus (first | rfl | (simp (disch := first | exact dschE1 | fail) only [go_sem, Int.natCast_zero]; first | done | rfl))
    intro x hx; simp at hx
  · rintro ⟨fr, hp⟩ ⟨n, r8, r0, r1, r7, rh, hi, hP⟩
    dsimp only at r8 r0 r1 r7 rh hi hP
    subst rh
    by_cases hn : n < l.length
    · have hlt : ((n : Int) < (l.length : Int)) = True := eq_true (by omega)
      have hx : l[n]? = some l[n] := List.getElem?_eq_getElem hn
      have had := hR.addr (i := (n : Int)) Fc.el60 Fc.ar60 (by omega) (by omega)
      rw [Int.toNat_natCast] at had
      have hld := hR.load Fc.ty75 hx
      have hc := fun base => hg base l[n] (List.getElem_mem hn)
      cases hp : p l[n] with
      | true =>
        rw [hp] at hc
        have hsp := @Nat.succ_ne_zero; repeat' (first | simp (disch := first | exact dschE1 | fail) only [go_sem, hsp, r8, r0, r1, r7, hlt, had, hld, hc] | refine WP_drw ?_ | refine cnd_intro (fun hsp => ?_) fun hsp => ?_)
        rw [idx_hit p hn hP hp]
        all_goals (first | refine fI ?_ | refine fB ?_ | refine fII ?_ ?_ | refine fBI ?_ ?_ | refine fIII ?_ ?_ ?_ | refine fIIB ?_ ?_ ?_ | skip); all_goals (try dsimp only); all_goals (try with_reducible rfl); all_goals (try omega)
      | false =>
        rw [hp] at hc
        have hsp := @Nat.succ_ne_zero; repeat' (first | simp (disch := first | exact dschE1 | fail) only [go_sem, hsp, r8, r0, r1, r7, hlt, had, hld, hc] | refine WP_drw ?_ | refine cnd_intro (fun hsp => ?_) fun hsp => ?_)
        exact ⟨⟨n + 1, by simp, by omega, take_next p hn hP hp⟩, by omega⟩
    · have hlt : ((n : Int) < (l.length : Int)) = False := eq_false (by omega)
      obtain rfl : n = l.length := by omega
      have hsp := @Nat.succ_ne_zero; repeat' (first | simp (disch := first | exact dschE1 | fail) only [go_sem, hsp, r8, r0, r1, r7, hlt] | refine WP_drw ?_ | refine cnd_intro (fun hsp => ?_) fun hsp => ?_)
      rw [idx_miss p hP]
      all_goals (first | refine fI ?_ | refine fB ?_ | refine fII ?_ ?_ | refine fBI ?_ ?_ | refine fIII ?_ ?_ ?_ | refine fIIB ?_ ?_ ?_ | skip); all_goals (try dsimp only); all_goals (try with_reducible rfl); all_goals (try omega)
theorem anyF_B {base : Nat} {h : Heap} {v g : AVal} {l : List (Int × Int × Int)} (p : Int × Int × Int → Bool) (hR : Rows encB h v l) (hg : ∀ base x, x ∈ l → callL prog raw base g [.agg (encB.cells x)] h = some (.bool (p x), h)) :
    callL prog raw base (.fn 162 [] []) [v, g] h = some (.bool (l.any p), h) := by
  have hi := fun base => idxF_B (base := base) p hR hg
  have h0 := idx_any p l
  refine callL_run func162 rfl rfl ?_
  have hsp := @Nat.succ_ne_zero; repeat' (first | simp (disch := first | exact dschE1 | fail) only [go_sem, hsp, hi] | refine WP_drw ?_ | refine cnd_intro (fun hsp => ?_) fun hsp => ?_)
  refine fB ?_
  by_cases h1 : l.any p = true
  · rw [h1]; simpa using h0.2 h1
  · have h2 : ¬ 0 ≤ idx p l := fun h => h1 (h0.1 h)
    simp only [Bool.not_eq_true] at h1
    rw [h1]; simpa using h2
theorem idxF_T {base : Nat} {h : Heap} {v g : AVal} {l : List (Int × Int)} (p : Int × Int → Bool) (hR : Rows encT h v l) (hg : ∀ base x, x ∈ l → callL prog raw base g [.agg (encT.cells x)] h = some (.bool (p x), h)) :
    callL prog raw base (.fn 175 [] []) [v, g] h = some (.int .i64 (idx p l), h) := by
  have hb : l.length < 2 ^ 60 := hR.1
  refine callL_run func175 rfl rfl ?_
  have hsp := @Nat.succ_ne_zero; repeat' (first | simp (disch := first | exact dschE1 | fail) only [go_sem, hsp, hR.len Fc.el96] | refine WP_drw ?_ | refine cnd_intro (fun hsp => ?_) fun hsp => ?_)
  refine WP_loop (fun σ => ∃ n : Nat, σ.fr 8 = .int .i64 (n : Int) ∧ σ.fr 0 = v ∧ σ.fr 1 = g ∧ σ.fr 7 = .int .i64 (l.length : Int) ∧ σ.h = h ∧ n ≤ l.length ∧ (∀ x ∈ l.take n, p x = false)) (fun σ => match σ.fr 8 with | .int _ x => (((l.length : Nat) : Int) - x).toNat | _ => 0) ?_ ?_
  · refine ⟨0, ?_, ?_, ?_, ?_, ?_, by omega, ?_⟩
    iterate 5 focus (first | rfl | (simp (disch := first | exact dschE1 | fail) only [go_sem, Int.natCast_zero]; first | done | rfl))
    intro x hx; simp at hx
  · rintro ⟨fr, hp⟩ ⟨n, r8, r0, r1, r7, rh, hi, hP⟩
    dsimp only at r8 r0 r1 r7 rh hi hP
    subst rh
    by_cases hn : n < l.length
    · have hlt : ((n : Int) < (l.length : Int)) = True := eq_true (by omega)
      have hx : l[n]? = some l[n] := List.getElem?_eq_getElem hn
      have had := hR.addr (i := (n : Int)) Fc.el96 Fc.ar96 (by omega) (by omega)
      rw [Int.toNat_natCast] at had
      have hld := hR.load Fc.ty101 hx
      have hc := fun base => hg base l[n] (List.getElem_mem hn)
      cases hp : p l[n] with
      | true =>
        rw [hp] at hc
        have hsp := @Nat.succ_ne_zero; repeat' (first | simp (disch := first | exact dschE1 | fail) only [go_sem, hsp, r8, r0, r1, r7, hlt, had, hld, hc] | refine WP_drw ?_ | refine cnd_intro (fun hsp => ?_) fun hsp => ?_)
        rw [idx_hit p hn hP hp]
        all_goals (first | refine fI ?_ | refine fB ?_ | refine fII ?_ ?_ | refine fBI ?_ ?_ | refine fIII ?_ ?_ ?_ | refine fIIB ?_ ?_ ?_ | skip); all_goals (try dsimp only); all_goals (try with_reducible rfl); all_goals (try omega)
      | false =>
        rw [hp] at hc
        have hsp := @Nat.succ_ne_zero; repeat' (first | simp (disch := first | exact dschE1 | fail) only [go_sem, hsp, r8, r0, r1, r7, hlt, had, hld, hc] | refine WP_drw ?_ | refine cnd_intro (fun hsp => ?_) fun hsp => ?_)
        exact ⟨⟨n + 1, by simp, by omega, take_next p hn hP hp⟩, by omega⟩
    · have hlt : ((n : Int) < (l.length : Int)) = False := eq_false (by omega)
      obtain rfl : n = l.length := by omega
      have hsp := @Nat.succ_ne_zero; repeat' (first | simp (disch := first | exact dschE1 | fail) only [go_sem, hsp, r8, r0, r1, r7, hlt] | refine WP_drw ?_ | refine cnd_intro (fun hsp => ?_) fun hsp => ?_)
      rw [idx_miss p hP]
      all_goals (first | refine fI ?_ | refine fB ?_ | refine fII ?_ ?_ | refine fBI ?_ ?_ | refine fIII ?_ ?_ ?_ | refine fIIB ?_ ?_ ?_ | skip); all_goals (try dsimp only); all_goals (try with_reducible rfl); all_goals (try omega)
theorem anyF_T {base : Nat} {h : Heap} {v g : AVal} {l : List (Int × Int)} (p : Int × Int → Bool) (hR : Rows encT h v l) (hg : ∀ base x, x ∈ l → callL prog raw base g [.agg (encT.cells x)] h = some (.bool (p x), h)) :
    callL prog raw base (.fn 138 [] []) [v, g] h = some (.bool (l.any p), h) := by
  have hi := fun base => idxF_T (base := base) p hR hg
  have h0 := idx_any p l
  refine callL_run func138 rfl rfl ?_
  have hsp := @Nat.succ_ne_zero; repeat' (first | simp (disch := first | exact dschE1 | fail) only [go_sem, hsp, hi] | refine WP_drw ?_ | refine cnd_intro (fun hsp => ?_) fun hsp => ?_)
  refine fB ?_
  by_cases h1 : l.any p = true
  · rw [h1]; simpa using h0.2 h1
  · have h2 : ¬ 0 ≤ idx p l := fun h => h1 (h0.1 h)
    simp only [Bool.not_eq_true] at h1
    rw [h1]; simpa using h2
theorem idxF_I {base : Nat} {h : Heap} {v g : AVal} {l : List (Int)} (p : Int → Bool) (hR : Ints h v l) (hg : ∀ base x, x ∈ l → callL prog raw base g [.int .i64 x] h = some (.bool (p x), h)) :
    callL prog raw base (.fn 176 [] []) [v, g] h = some (.int .i64 (idx p l), h) := by
  have hb : l.length < 2 ^ 60 := hR.1.1
  refine callL_run func176 rfl rfl ?_
  have hsp := @Nat.succ_ne_zero; repeat' (first | simp (disch := first | exact dschE1 | fail) only [go_sem, hsp, hR.len Fc.el36] | refine WP_drw ?_ | refine cnd_intro (fun hsp => ?_) fun hsp => ?_)
  refine WP_loop (fun σ => ∃ n : Nat, σ.fr 8 = .int .i64 (n : Int) ∧ σ.fr 0 = v ∧ σ.fr 1 = g ∧ σ.fr 7 = .int .i64 (l.length : Int) ∧ σ.h = h ∧ n ≤ l.length ∧ (∀ x ∈ l.take n, p x = false)) (fun σ => match σ.fr 8 with | .int _ x => (((l.length : Nat) : Int) - x).toNat | _ => 0) ?_ ?_
  · refine ⟨0, ?_, ?_, ?_, ?_, ?_, by omega, ?_⟩
    iterate 5 focus (first | rfl | (simp (disch := first | exact dschE1 | fail) only [go_sem, Int.natCast_zero]; first | done | rfl))
    intro x hx; simp at hx
  · rintro ⟨fr, hp⟩ ⟨n, r8, r0, r1, r7, rh, hi, hP⟩
    dsimp only at r8 r0 r1 r7 rh hi hP
    subst rh
    by_cases hn : n < l.length
    · have hlt : ((n : Int) < (l.length : Int)) = True := eq_true (by omega)
      have hx : l[n]? = some l[n] := List.getElem?_eq_getElem hn
      have had := hR.addr (i := (n : Int)) Fc.el36 Fc.ar36 (by omega) (by omega)
      rw [Int.toNat_natCast] at had
      have hld := hR.load Fc.ty3 hx
      have hc := fun base => hg base l[n] (List.getElem_mem hn)
      cases hp : p l[n] with
      | true =>
        rw [hp] at hc
        have hsp := @Nat.succ_ne_zero; repeat' (first | simp (disch := first | exact dschE1 | fail) only [go_sem, hsp, r8, r0, r1, r7, hlt, had, hld, hc] | refine WP_drw ?_ | refine cnd_intro (fun hsp => ?_) fun hsp => ?_)
        rw [idx_hit p hn hP hp]
        all_goals (first | refine fI ?_ | refine fB ?_ | refine fII ?_ ?_ | refine fBI ?_ ?_ | refine fIII ?_ ?_ ?_ | refine fIIB ?_ ?_ ?_ | skip); all_goals (try dsimp only); all_goals (try with_reducible rfl); all_goals (try omega)
      | false =>
        rw [hp] at hc
        have hsp := @Nat.succ_ne_zero; repeat' (first | simp (disch := first | exact dschE1 | fail) only [go_sem, hsp, r8, r0, r1, r7, hlt, had, hld, hc] | refine WP_drw ?_ | refine cnd_intro (fun hsp => ?_) fun hsp => ?_)
        exact ⟨⟨n + 1, by simp, by omega, take_next p hn hP hp⟩, by omega⟩
    · have hlt : ((n : Int) < (l.length : Int)) = False := eq_false (by omega)
      obtain rfl : n = l.length := by omega
      have hsp := @Nat.succ_ne_zero; repeat' (first | simp (disch := first | exact dschE1 | fail) only [go_sem, hsp, r8, r0, r1, r7, hlt] | refine WP_drw ?_ | refine cnd_intro (fun hsp => ?_) fun hsp => ?_)
      rw [idx_miss p hP]
      all_goals (first | refine fI ?_ | refine fB ?_ | refine fII ?_ ?_ | refine fBI ?_ ?_ | refine fIII ?_ ?_ ?_ | refine fIIB ?_ ?_ ?_ | skip); all_goals (try dsimp only); all_goals (try with_reducible rfl); all_goals (try omega)
theorem anyF_I {base : Nat} {h : Heap} {v g : AVal} {l : List (Int)} (p : Int → Bool) (hR : Ints h v l) (hg : ∀ base x, x ∈ l → callL prog raw base g [.int .i64 x] h = some (.bool (p x), h)) :
    callL prog raw base (.fn 144 [] []) [v, g] h = some (.bool (l.any p), h) := by
  have hi := fun base => idxF_I (base := base) p hR hg
  have h0 := idx_any p l
  refine callL_run func144 rfl rfl ?_
  have hsp := @Nat.succ_ne_zero; repeat' (first | simp (disch := first | exact dschE1 | fail) only [go_sem, hsp, hi] | refine WP_drw ?_ | refine cnd_intro (fun hsp => ?_) fun hsp => ?_)
  refine fB ?_
  by_cases h1 : l.any p = true
  · rw [h1]; simpa using h0.2 h1
  · have h2 : ¬ 0 ≤ idx p l := fun h => h1 (h0.1 h)
    simp only [Bool.not_eq_true] at h1
    rw [h1]; simpa using h2
theorem not_I {base id : Nat} {h : Heap} {g : AVal} {x : Int} {b : Bool} (hid : h[id]? = some ⟨.cells [g] 134 false false, 0⟩) (hg : ∀ base T, callL prog raw base g [.int .i64 x] (h ++ T) = some (.bool b, h ++ T)) :
    callL prog raw base (.fn 145 [] [.ptr (some ⟨id, 0, 0⟩)]) [.int .i64 x] h = some (.bool (!b), h) := by
  have hgi := lt_of_get hid
  have hg0 : ∀ base, callL prog raw base g [.int .i64 x] h = some (.bool b, h) := fun base => by have := hg base []; rwa [List.append_nil] at this
  refine callL_run func145 rfl rfl ?_
  have hsp := @Nat.succ_ne_zero; repeat' (first | simp (disch := first | exact dschE1 | fail) only [go_sem, hsp, hid, hg, hg0] | refine WP_drw ?_ | refine cnd_intro (fun hsp => ?_) fun hsp => ?_)
  exact fB rfl
theorem every_I {base : Nat} {h : Heap} {v g : AVal} {l : List (Int)} (p : Int → Bool) (hR : Ints h v l) (hg : ∀ base T x, x ∈ l → callL prog raw base g [.int .i64 x] (h ++ T) = some (.bool (p x), h ++ T)) (h1 : One g) :
    callL prog raw base (.fn 96 [] []) [v, g] h = some (.bool (l.all p), h) := by
  have hc := fun base => anyF_I (base := base) (fun x => !p x) hR.app (fun base x hx => not_I (x := x) (get_eq rfl) (fun base T => by have := hg base ([⟨.cells [g] 134 false false, 0⟩] ++ T) x hx; rwa [← List.append_assoc] at this))
  refine callL_run func96 rfl rfl ?_
  have hsp := @Nat.succ_ne_zero; repeat' (first | simp (disch := first | exact dschE1 | fail) only [go_sem, hsp, hc] | refine WP_drw ?_ | refine cnd_intro (fun hsp => ?_) fun hsp => ?_)
  refine fB ?_
  rw [List.any_eq_not_all_not]
  simp
end Go.AM
/-
  Contracts: bounds, ribbons, throws, parts and sights of a loom; what Check asks of each element.
-/
namespace Go.AM
open Go.Proofs.Tryz
theorem dschE2 {p : Prop} (h : p := by first | exact Nat.ne_of_beq_eq_false rfl | assumption | (apply asOne; (first | exact One.int | exact One.bool | assumption | exact Ints.one (by assumption) | exact Rows.one (by assumption) | exact Own.one (by assumption) | exact One.lit ⟨rfl, rfl, rfl⟩)) | (apply asInts; (repeat first | assumption | exact ints_nil | apply Ints.app); done) | (apply asRows; (repeat first | assumption | exact Rows.nil | apply Rows.app); done) | (apply asScal; (first | apply allS1 | apply allS2 | apply allS3 | apply allS4) <;> (first | exact One.int | exact One.bool | assumption | exact Ints.one (by assumption) | exact Rows.one (by assumption) | exact Own.one (by assumption) | exact One.lit ⟨rfl, rfl, rfl⟩)) | exact litT rfl | exact litF rfl | omega | (simp only [List.length_append, List.length_cons, List.length_nil, List.length_set, List.length_reverse]; first | done | omega) | fail) : p := h
/-- A loom's value. -/
abbrev lomV (R T : Int) (pv sv : AVal) : AVal := .agg [.int .i64 R, .int .i64 T, pv, sv]
theorem run_inn {base : Nat} {h : Heap} {n lo hi : Int} : callL prog raw base (.fn 82 [] []) [.int .i64 n, .int .i64 lo, .int .i64 hi] h = some (.bool (decide (lo ≤ n ∧ n ≤ hi)), h) := by
  refine callL_run func82 rfl rfl ?_
  by_cases h1 : lo ≤ n
  · have t1 : (n ≥ lo) = True := eq_true h1
    have hsp := @Nat.succ_ne_zero; repeat' (first | simp (disch := first | exact dschE2 | fail) only [go_sem, hsp, t1] | refine WP_drw ?_ | refine cnd_intro (fun hsp => ?_) fun hsp => ?_)
    refine fB ?_
    simp [h1]
  · have t1 : (n ≥ lo) = False := eq_false h1
    have hsp := @Nat.succ_ne_zero; repeat' (first | simp (disch := first | exact dschE2 | fail) only [go_sem, hsp, t1] | refine WP_drw ?_ | refine cnd_intro (fun hsp => ?_) fun hsp => ?_)
    refine fB ?_
    simp [h1]
attribute [go_sem] run_inn
theorem run_ribbon {base : Nat} {h : Heap} {R T n : Int} {pv sv : AVal} (hR : -1000 ≤ R ∧ R ≤ 1000) : callL prog raw base (.fn 119 [] []) [lomV R T pv sv, .int .i64 n] h = some (.bool (decide (0 ≤ n ∧ n ≤ R - 1)), h) := by
  refine callL_run func119 rfl rfl ?_
  have hsp := @Nat.succ_ne_zero; repeat' (first | simp (disch := first | exact dschE2 | fail) only [go_sem, hsp] | refine WP_drw ?_ | refine cnd_intro (fun hsp => ?_) fun hsp => ?_)
  exact fB rfl
theorem run_ribbon' {base : Nat} {h : Heap} {R T n : Int} {pv sv : AVal} (hR : -1000 ≤ R ∧ R ≤ 1000) : callL prog raw base (.fn 119 [lomV R T pv sv] []) [.int .i64 n] h = some (.bool (decide (0 ≤ n ∧ n ≤ R - 1)), h) := by
  refine callL_run func119 rfl rfl ?_
  have hsp := @Nat.succ_ne_zero; repeat' (first | simp (disch := first | exact dschE2 | fail) only [go_sem, hsp] | refine WP_drw ?_ | refine cnd_intro (fun hsp => ?_) fun hsp => ?_)
  exact fB rfl
theorem run_throw {base : Nat} {h : Heap} {R T n : Int} {pv sv : AVal} (hT : -1000 ≤ T ∧ T ≤ 1000) : callL prog raw base (.fn 126 [] []) [lomV R T pv sv, .int .i64 n] h = some (.bool (decide (0 ≤ n ∧ n ≤ T - 1)), h) := by
  refine callL_run func126 rfl rfl ?_
  have hsp := @Nat.succ_ne_zero; repeat' (first | simp (disch := first | exact dschE2 | fail) only [go_sem, hsp] | refine WP_drw ?_ | refine cnd_intro (fun hsp => ?_) fun hsp => ?_)
  exact fB rfl
attribute [go_sem] run_ribbon run_ribbon' run_throw
/-! What Check asks of parts and sights. -/
theorem run_chk1 {base : Nat} {h : Heap} {p : PrtV} {l : List Int} (hI : Ints h p.v l) : callL prog raw base (.fn 121 [] []) [.agg (encP.cells p)] h = some (.bool (decide (0 < l.length)), h) := by
  have hn := norm_one hI.one
  have hl := hI.1.1
  simp only [encP, hn]
  refine callL_run func121 rfl rfl ?_
  have hsp := @Nat.succ_ne_zero; repeat' (first | simp (disch := first | exact dschE2 | fail) only [go_sem, hsp] | refine WP_drw ?_ | refine cnd_intro (fun hsp => ?_) fun hsp => ?_)
  refine fB (dec_eq ?_)
  omega
theorem run_chk2 {base : Nat} {h : Heap} {p : PrtV} (_hp : p.each ≤ p.each) : callL prog raw base (.fn 122 [] []) [.agg (encP.cells p)] h = some (.bool (decide ((1 ≤ p.each ∧ p.each ≤ 4) ∧ (0 ≤ p.ph ∧ p.ph ≤ p.each - 1))), h) := by
  simp only [encP]
  refine callL_run func122 rfl rfl ?_
  by_cases h1 : 1 ≤ p.each ∧ p.each ≤ 4
  · have t1 : (1 ≤ p.each ∧ p.each ≤ 4) = True := eq_true h1
    have hsp := @Nat.succ_ne_zero; repeat' (first | simp (disch := first | exact dschE2 | fail) only [go_sem, hsp, t1] | refine WP_drw ?_ | refine cnd_intro (fun hsp => ?_) fun hsp => ?_)
    refine fB ?_
    simp [h1]
  · have t1 : (1 ≤ p.each ∧ p.each ≤ 4) = False := eq_false h1
    have hsp := @Nat.succ_ne_zero; repeat' (first | simp (disch := first | exact dschE2 | fail) only [go_sem, hsp, t1] | refine WP_drw ?_ | refine cnd_intro (fun hsp => ?_) fun hsp => ?_)
    refine fB ?_
    simp [h1]
theorem run_chk6 {base : Nat} {h : Heap} {s : Sgt} : callL prog raw base (.fn 129 [] []) [.agg (encS.cells s)] h = some (.bool (decide (s.lo ≤ s.hi)), h) := by
  simp only [encS]
  refine callL_run func129 rfl rfl ?_
  have hsp := @Nat.succ_ne_zero; repeat' (first | simp (disch := first | exact dschE2 | fail) only [go_sem, hsp] | refine WP_drw ?_ | refine cnd_intro (fun hsp => ?_) fun hsp => ?_)
  exact fB rfl
end Go.AM
/-
  Contracts: lists that rise strictly; the error of a loom.
-/
namespace Go.AM
open Go.Proofs.Tryz
theorem dschE3 {p : Prop} (h : p := by first | exact Nat.ne_of_beq_eq_false rfl | assumption | (apply asOne; (first | exact One.int | exact One.bool | assumption | exact Ints.one (by assumption) | exact Rows.one (by assumption) | exact Own.one (by assumption) | exact One.lit ⟨rfl, rfl, rfl⟩)) | (apply asInts; (repeat first | assumption | exact ints_nil | apply Ints.app); done) | (apply asRows; (repeat first | assumption | exact Rows.nil | apply Rows.app); done) | (apply asScal; (first | apply allS1 | apply allS2 | apply allS3 | apply allS4) <;> (first | exact One.int | exact One.bool | assumption | exact Ints.one (by assumption) | exact Rows.one (by assumption) | exact Own.one (by assumption) | exact One.lit ⟨rfl, rfl, rfl⟩)) | exact litT rfl | exact litF rfl | omega | (simp only [List.length_append, List.length_cons, List.length_nil, List.length_set, List.length_reverse]; first | done | omega) | fail) : p := h
theorem run_rising {base : Nat} {h : Heap} {v : AVal} {l : List Int} (hI : Ints h v l) (hs : Small l) : callL prog raw base (.fn 128 [] []) [v] h = some (.bool (riseB l), h) := by
  have hc := fun base => run_clone (base := base) hI hs
  refine callL_run func128 rfl rfl ?_
  cases hso : sortB l with
  | false =>
    have hr : riseB l = false := by
      unfold sortB at hso
      refine decide_eq_false fun hh => of_decide_eq_false hso fun i h1 h2 => ?_
      have := hh i h1 h2
      omega
    have hsp := @Nat.succ_ne_zero; repeat' (first | simp (disch := first | exact dschE3 | fail) only [go_sem, hsp, hso] | refine WP_drw ?_ | refine cnd_intro (fun hsp => ?_) fun hsp => ?_)
    exact fB hr.symm
  | true =>
    have hso2 := of_decide_eq_true hso
    have key : nodup l ↔ riseB l = true := by
      unfold riseB nodup
      rw [decide_eq_true_iff]
      exact ⟨fun hd i h1 h2 => by have := hd i h1 h2; have := hso2 i h1 h2; omega, fun hh i h1 h2 => by have := hh i h1 h2; omega⟩
    by_cases hz : nilB v = true ∨ l = []
    · have hl0 : l = [] := hz.elim (fun hn => (hI.nilB_nil hn).2) id
      subst hl0
      have hic : Ints h (cloneV v h.length []) [] := by have := cloneV_ints hI hs; simpa [cloneH, newH_nil] using this
      obtain ⟨cv, CH, ce, hv1, hv2⟩ := run_compact0 (base := h.length) hic (by simp)
      rw [hv1, hv2] at ce
      have hce : h ++ cloneH v [] = h := by simp [cloneH, newH_nil]
      rw [hce] at hc
      have hrz : riseB [] = true := rfl
      have hsp := @Nat.succ_ne_zero; repeat' (first | simp (disch := first | exact dschE3 | fail) only [go_sem, hsp, hso, hc, ce, lenI hic, lenI hI, List.length_nil, Int.natCast_zero] | refine WP_drw ?_ | refine cnd_intro (fun hsp => ?_) fun hsp => ?_)
      exact fB hrz.symm
    · have hne : l ≠ [] := fun e => hz (.inr e)
      have hnb : nilB v = false := by simpa using fun e => hz (.inl e)
      have e1 : ∀ n, cloneV v n l = .slice (some ⟨n, 0, 0⟩) l.length l.length := fun n => by rw [cloneV, if_neg (by simp [hnb]), newV_ne hne]
      have e2 : cloneH v l = [rowB l 0] := by rw [cloneH, if_neg (by simp [hnb]), newH_ne hne]
      rw [e1, e2] at hc
      obtain ⟨cv, CH, ce, k, m, rfl, rfl, hm, hk, hiff⟩ := run_compact (base := h.length) (h := h ++ [rowB l 0]) (id := h.length) (get_eq rfl) hs
      have hIm : Ints ((h ++ [rowB l 0]).set h.length (rowB m 0)) v l := by rw [set_eq rfl]; exact hI.app
      have hsp := @Nat.succ_ne_zero; repeat' (first | simp (disch := first | exact dschE3 | fail) only [go_sem, hsp, hso, hc, ce, Fc.ln36, lenI hIm] | refine WP_drw ?_ | refine cnd_intro (fun hsp => ?_) fun hsp => ?_)
      refine fB ?_ ?_
      · by_cases hd : nodup l
        · rw [key.1 hd]
          have := hiff.2 hd
          first | exact decide_eq_true (by omega) | (simp; omega)
        · have hf : riseB l = false := by cases hb : riseB l with | false => rfl | true => exact absurd (key.2 hb) hd
          rw [hf]
          have : ¬ k = l.length := fun e => hd (hiff.1 e)
          first | exact decide_eq_false (by omega) | (simp; omega)
      · first | exact Ext.app .refl | (rw [set_eq rfl]; exact Ext.app .refl) | exact Ext.set (Ext.app .refl) (Nat.le_refl _)
attribute [go_sem] run_rising
end Go.AM
/-
  Contracts: the error of a loom.
-/
namespace Go.AM
open Go.Proofs.Tryz
theorem dschE4 {p : Prop} (h : p := by first | exact Nat.ne_of_beq_eq_false rfl | assumption | (apply asOne; (first | exact One.int | exact One.bool | assumption | exact Ints.one (by assumption) | exact Rows.one (by assumption) | exact Own.one (by assumption) | exact One.lit ⟨rfl, rfl, rfl⟩)) | (apply asInts; (repeat first | assumption | exact ints_nil | apply Ints.app); done) | (apply asRows; (repeat first | assumption | exact Rows.nil | apply Rows.app); done) | (apply asScal; (first | apply allS1 | apply allS2 | apply allS3 | apply allS4) <;> (first | exact One.int | exact One.bool | assumption | exact Ints.one (by assumption) | exact Rows.one (by assumption) | exact Own.one (by assumption) | exact One.lit ⟨rfl, rfl, rfl⟩)) | exact litT rfl | exact litF rfl | omega | (simp only [List.length_append, List.length_cons, List.length_nil, List.length_set, List.length_reverse]; first | done | omega) | fail) : p := h
theorem ints_inj : ∀ {l m : List Int}, ints l = ints m → l = m
  | [], [], _ => rfl
  | [], _ :: _, h => by cases h
  | _ :: _, [], h => by cases h
  | x :: l, y :: m, h => by
    have h1 : AVal.int .i64 x = .int .i64 y ∧ ints l = ints m := List.cons.inj h
    have h2 : x = y := by have := h1.1; injection this
    rw [h2, ints_inj h1.2]
theorem Ints.uniq {h : Heap} {v : AVal} {l m : List Int} (a : Ints h v l) (b : Ints h v m) : l = m := by
  rcases a.2 with ⟨rfl, rfl⟩ | ⟨rfl, rfl⟩ | ⟨r, k, c, e, row, ro, rfl, h1, h2, _⟩
  · rcases b.2 with ⟨_, rfl⟩ | ⟨hc, _⟩ | ⟨r, k, c, e, row, ro, hc, _⟩
    · rfl
    · cases hc
    · cases hc
  · rcases b.2 with ⟨hc, _⟩ | ⟨_, rfl⟩ | ⟨r, k, c, e, row, ro, hc, _⟩
    · cases hc
    · rfl
    · cases hc
  · rcases b.2 with ⟨hc, _⟩ | ⟨hc, _⟩ | ⟨r', k', c', e', row', ro', hc, g1, g2, _⟩
    · cases hc
    · cases hc
    · simp only [AVal.slice.injEq, Option.some.injEq] at hc
      obtain ⟨rfl, hlen, _⟩ := hc
      rw [h1] at g1
      cases g1
      refine ints_inj ?_
      rw [← h2, ← g2, hlen]
open Classical in
/-- The ribbons of a part in memory. -/
noncomputable def rbOf (h : Heap) (x : PrtV) : List Int := if hx : ∃ l, Ints h x.v l then Classical.choose hx else []
theorem rbOf_eq {h : Heap} {x : PrtV} {l : List Int} (a : Ints h x.v l) : rbOf h x = l := by
  have hx : ∃ l, Ints h x.v l := ⟨l, a⟩
  unfold rbOf
  rw [dif_pos hx]
  exact (Classical.choose_spec hx).uniq a
noncomputable def toPrt (h : Heap) (x : PrtV) : Prt := ⟨rbOf h x, x.each, x.ph, x.wv⟩
theorem Parts.map {h : Heap} {ps : List Prt} {vs : List PrtV} (h2 : vs.length = ps.length) (h3 : ∀ (i : Nat) x p, vs[i]? = some x → ps[i]? = some p → Ints h x.v p.rib ∧ x.each = p.each ∧ x.ph = p.ph ∧ x.wv = p.wv) : vs.map (toPrt h) = ps ∧ ∀ x ∈ vs, Ints h x.v (toPrt h x).rib := by
  have key : ∀ (i : Nat) x p, vs[i]? = some x → ps[i]? = some p → toPrt h x = p ∧ Ints h x.v (toPrt h x).rib := fun i x p a b => by
    obtain ⟨q1, q2, q3, q4⟩ := h3 i x p a b
    have e := rbOf_eq q1
    refine ⟨?_, by show Ints h x.v (rbOf h x); rw [e]; exact q1⟩
    unfold toPrt
    rw [e, q2, q3, q4]
  refine ⟨List.ext_getElem (by rw [List.length_map, h2]) fun i a b => ?_, fun x hx => ?_⟩
  · rw [List.getElem_map]
    have a' : i < vs.length := by simpa using a
    exact (key i _ _ (List.getElem?_eq_getElem a') (List.getElem?_eq_getElem b)).1
  · obtain ⟨i, hi, rfl⟩ := List.getElem_of_mem hx
    exact (key i _ _ (List.getElem?_eq_getElem hi) (List.getElem?_eq_getElem (by omega))).2
/-- What Check says. -/
def chkM (L : Lom) : Int :=
  if ¬ (1 ≤ L.R ∧ L.R ≤ 6) ∨ ¬ (1 ≤ L.T ∧ L.T ≤ 12) ∨ ¬ (1 ≤ (L.ps.length : Int) ∧ (L.ps.length : Int) ≤ 6) ∨ (L.ss.length : Int) > 10 ∨ ¬ (L.ps.all fun p => decide (0 < p.rib.length)) = true then 2 else
  if ¬ (L.ps.all fun p => decide ((1 ≤ p.each ∧ p.each ≤ 4) ∧ (0 ≤ p.ph ∧ p.ph ≤ p.each - 1))) = true then 3 else
  if ¬ (L.ps.all fun p => p.rib.all fun r => decide (0 ≤ r ∧ r ≤ L.R - 1)) = true ∨ ¬ (L.ss.all fun s => decide ((0 ≤ s.rib ∧ s.rib ≤ L.R - 1) ∧ (0 ≤ s.lo ∧ s.lo ≤ L.T - 1) ∧ (0 ≤ s.hi ∧ s.hi ≤ L.T - 1))) = true then 1 else
  if ¬ (L.ps.all fun p => riseB p.rib) = true ∨ ¬ (L.ss.all fun s => decide (s.lo ≤ s.hi)) = true then 4 else 0
theorem run_chk5 {base : Nat} {h : Heap} {p : PrtV} {l : List Int} (hI : Ints h p.v l) (hs : Small l) : callL prog raw base (.fn 127 [] []) [.agg (encP.cells p)] h = some (.bool (riseB l), h) := by
  have hn := norm_one hI.one
  simp only [encP, hn]
  refine callL_run func127 rfl rfl ?_
  have hsp := @Nat.succ_ne_zero; repeat' (first | simp (disch := first | exact dschE4 | fail) only [go_sem, hsp] | refine WP_drw ?_ | refine cnd_intro (fun hsp => ?_) fun hsp => ?_)
  exact fB rfl
theorem run_chk3 {base id : Nat} {h : Heap} {p : PrtV} {l : List Int} {R T : Int} {pv sv : AVal} (hI : Ints h p.v l) (hR : -1000 ≤ R ∧ R ≤ 1000) (hid : h[id]? = some ⟨.cells [.fn 119 [lomV R T pv sv] []] 134 false false, 0⟩) : callL prog raw base (.fn 123 [] [.ptr (some ⟨id, 0, 0⟩)]) [.agg (encP.cells p)] h = some (.bool (l.all fun r => decide (0 ≤ r ∧ r ≤ R - 1)), h) := by
  have hn := norm_one hI.one
  have hlt := lt_of_get hid
  simp only [encP, hn]
  have he : ∀ {base : Nat} {T' : Heap}, callL prog raw base (.fn 96 [] []) [p.v, .fn 119 [lomV R T pv sv] []] (h ++ T') = some (.bool (l.all fun r => decide (0 ≤ r ∧ r ≤ R - 1)), h ++ T') := fun {base T'} => every_I _ hI.app (fun base T x _ => run_ribbon' hR) ⟨rfl, rfl, rfl⟩
  refine callL_run func123 rfl rfl ?_
  have hsp := @Nat.succ_ne_zero; repeat' (first | simp (disch := first | exact dschE4 | fail) only [go_sem, hsp, hid, he] | refine WP_drw ?_ | refine cnd_intro (fun hsp => ?_) fun hsp => ?_)
  exact fB rfl
theorem run_chk4 {base id id2 : Nat} {h : Heap} {s : Sgt} {R T R' T' : Int} {pv sv pv' sv' : AVal} (hR : -1000 ≤ R ∧ R ≤ 1000) (hT : -1000 ≤ T' ∧ T' ≤ 1000) (hid : h[id]? = some ⟨.cells [.fn 119 [lomV R T pv sv] []] 134 false false, 0⟩)
    (hid2 : h[id2]? = some ⟨.cells [.int .i64 R', .int .i64 T', pv', sv'] 25 false false, 0⟩) : callL prog raw base (.fn 125 [] [.ptr (some ⟨id, 0, 0⟩), .ptr (some ⟨id2, 0, 0⟩)]) [.agg (encS.cells s)] h = some (.bool (decide ((0 ≤ s.rib ∧ s.rib ≤ R - 1) ∧ (0 ≤ s.lo ∧ s.lo ≤ T' - 1) ∧ (0 ≤ s.hi ∧ s.hi ≤ T' - 1))), h) := by
  have hlt := lt_of_get hid
  have hlt2 := lt_of_get hid2
  simp only [encS]
  refine callL_run func125 rfl rfl ?_
  by_cases h1 : 0 ≤ s.rib ∧ s.rib ≤ R - 1
  · have t1 : (0 ≤ s.rib ∧ s.rib ≤ R - 1) = True := eq_true h1
    by_cases h2 : 0 ≤ s.lo ∧ s.lo ≤ T' - 1
    · have t2 : (0 ≤ s.lo ∧ s.lo ≤ T' - 1) = True := eq_true h2
      have hsp := @Nat.succ_ne_zero; repeat' (first | simp (disch := first | exact dschE4 | fail) only [go_sem, hsp, hid, hid2, t1, t2] | refine WP_drw ?_ | refine cnd_intro (fun hsp => ?_) fun hsp => ?_)
      refine fB ?_
      simp [h1, h2]
    · have t2 : (0 ≤ s.lo ∧ s.lo ≤ T' - 1) = False := eq_false h2
      have hsp := @Nat.succ_ne_zero; repeat' (first | simp (disch := first | exact dschE4 | fail) only [go_sem, hsp, hid, hid2, t1, t2] | refine WP_drw ?_ | refine cnd_intro (fun hsp => ?_) fun hsp => ?_)
      refine fB ?_
      simp [h1, h2]
  · have t1 : (0 ≤ s.rib ∧ s.rib ≤ R - 1) = False := eq_false h1
    have hsp := @Nat.succ_ne_zero; repeat' (first | simp (disch := first | exact dschE4 | fail) only [go_sem, hsp, hid, hid2, t1] | refine WP_drw ?_ | refine cnd_intro (fun hsp => ?_) fun hsp => ?_)
    refine fB ?_
    simp [h1]
end Go.AM
/-
  Contracts: the error of a loom.
-/
namespace Go.AM
open Go.Proofs.Tryz
theorem dschE5 {p : Prop} (h : p := by first | exact Nat.ne_of_beq_eq_false rfl | assumption | (apply asOne; (first | exact One.int | exact One.bool | assumption | exact Ints.one (by assumption) | exact Rows.one (by assumption) | exact Own.one (by assumption) | exact One.lit ⟨rfl, rfl, rfl⟩)) | (apply asInts; (repeat first | assumption | exact ints_nil | apply Ints.app); done) | (apply asRows; (repeat first | assumption | exact Rows.nil | apply Rows.app); done) | (apply asScal; (first | apply allS1 | apply allS2 | apply allS3 | apply allS4) <;> (first | exact One.int | exact One.bool | assumption | exact Ints.one (by assumption) | exact Rows.one (by assumption) | exact Own.one (by assumption) | exact One.lit ⟨rfl, rfl, rfl⟩)) | exact litT rfl | exact litF rfl | omega | (simp only [List.length_append, List.length_cons, List.length_nil, List.length_set, List.length_reverse]; first | done | omega) | fail) : p := h
theorem run_check {base : Nat} {h : Heap} {v : AVal} {L : Lom} (hL : LomAt h v L) (hsm : ∀ p ∈ L.ps, Small p.rib) (hpl : L.ps.length ≤ 1048576) (hsl : L.ss.length ≤ 1048576) (hea : ∀ p ∈ L.ps, p.each ≤ p.each) :
    callL prog raw base (.fn 59 [] []) [v] h = some (.int .i64 (chkM L), h) := by
  obtain ⟨pv, sv, rfl, ⟨vs, hR, h2, h3⟩, hS⟩ := hL
  obtain ⟨hmap, hri⟩ := Parts.map h2 h3
  have hmem : ∀ x ∈ vs, toPrt h x ∈ L.ps := fun x hx => by rw [← hmap]; exact List.mem_map_of_mem hx
  obtain ⟨T1, eT1⟩ : ∃ T1 : Heap, T1 = [⟨.cells [.int .i64 L.R, .int .i64 L.T, pv, sv] 25 false false, 0⟩] ++ [⟨.cells [.fn 119 [lomV L.R L.T pv sv] []] 134 false false, 0⟩] := ⟨_, rfl⟩
  have eH : h ++ [⟨.cells [.int .i64 L.R, .int .i64 L.T, pv, sv] 25 false false, 0⟩] ++ [⟨.cells [.fn 119 [lomV L.R L.T pv sv] []] 134 false false, 0⟩] = h ++ T1 := by rw [eT1, List.append_assoc]
  have g0 : (h ++ T1)[h.length]? = some ⟨.cells [.int .i64 L.R, .int .i64 L.T, pv, sv] 25 false false, 0⟩ := by rw [← eH]; exact get_app (get_eq rfl)
  have g1 : (h ++ T1)[h.length + 1]? = some ⟨.cells [.fn 119 [lomV L.R L.T pv sv] []] 134 false false, 0⟩ := by rw [← eH]; exact get_eq (by simp)
  have e1 : ∀ {base : Nat}, callL prog raw base (.fn 120 [] []) [pv, .fn 121 [] []] (h ++ T1) = some (.bool (L.ps.all fun p => decide (0 < p.rib.length)), h ++ T1) := fun {base} => by
    rw [← hmap, List.all_map]
    exact every_P _ hR.app (fun base T x hx => run_chk1 (hri x hx).app.app) ⟨rfl, rfl, rfl⟩
  have e2 : ∀ {base : Nat}, callL prog raw base (.fn 120 [] []) [pv, .fn 122 [] []] (h ++ T1) = some (.bool (L.ps.all fun p => decide ((1 ≤ p.each ∧ p.each ≤ 4) ∧ (0 ≤ p.ph ∧ p.ph ≤ p.each - 1))), h ++ T1) := fun {base} => by
    rw [← hmap, List.all_map]
    exact every_P _ hR.app (fun base T x hx => run_chk2 (hea _ (hmem x hx))) ⟨rfl, rfl, rfl⟩
  have e5 : ∀ {base : Nat}, callL prog raw base (.fn 120 [] []) [pv, .fn 127 [] []] (h ++ T1) = some (.bool (L.ps.all fun p => riseB p.rib), h ++ T1) := fun {base} => by
    rw [← hmap, List.all_map]
    exact every_P _ hR.app (fun base T x hx => run_chk5 (hri x hx).app.app (hsm _ (hmem x hx))) ⟨rfl, rfl, rfl⟩
  have e6 : ∀ {base : Nat}, callL prog raw base (.fn 124 [] []) [sv, .fn 129 [] []] (h ++ T1) = some (.bool (L.ss.all fun s => decide (s.lo ≤ s.hi)), h ++ T1) := fun {base} =>
    every_S _ hS.app (fun base T x hx => run_chk6) ⟨rfl, rfl, rfl⟩
  have hlp := (hR.app (T := T1)).len (P := prog) Fc.el22
  have hls := (hS.app (T := T1)).len (P := prog) Fc.el23
  rw [h2] at hlp
  have hop := hR.one
  have hos := hS.one
  refine callL_run func59 rfl rfl ?_
  by_cases c1 : 1 ≤ L.R ∧ L.R ≤ 6
  · have t1 : (1 ≤ L.R ∧ L.R ≤ 6) = True := eq_true c1
    by_cases c2 : 1 ≤ L.T ∧ L.T ≤ 12
    · have t2 : (1 ≤ L.T ∧ L.T ≤ 12) = True := eq_true c2
      by_cases c3 : 1 ≤ (L.ps.length : Int) ∧ (L.ps.length : Int) ≤ 6
      · have t3 : (1 ≤ (L.ps.length : Int) ∧ (L.ps.length : Int) ≤ 6) = True := eq_true c3
        by_cases c4 : (L.ss.length : Int) > 10
        · have t4 : ((L.ss.length : Int) > 10) = True := eq_true c4
          have r : chkM L = 2 := by unfold chkM; rw [if_pos (.inr (.inr (.inr (.inl c4))))]
          rw [r]
          have hsp := @Nat.succ_ne_zero; repeat' (first | simp (disch := first | exact dschE5 | fail) only [go_sem, hsp, t1, t2, t3, t4, eH, g0, g1, hlp, hls] | refine WP_drw ?_ | refine cnd_intro (fun hsp => ?_) fun hsp => ?_)
          exact fI rfl
        · have t4 : ((L.ss.length : Int) > 10) = False := eq_false c4
          have e3 : ∀ {base : Nat}, callL prog raw base (.fn 120 [] []) [pv, .fn 123 [] [.ptr (some ⟨h.length + 1, 0, 0⟩)]] (h ++ T1) = some (.bool (L.ps.all fun p => p.rib.all fun r => decide (0 ≤ r ∧ r ≤ L.R - 1)), h ++ T1) := fun {base} => by
            rw [← hmap, List.all_map]
            exact every_P _ hR.app (fun base T x hx => run_chk3 (hri x hx).app.app (by omega) (get_app g1)) ⟨rfl, rfl, rfl⟩
          have e4 : ∀ {base : Nat}, callL prog raw base (.fn 124 [] []) [sv, .fn 125 [] [.ptr (some ⟨h.length + 1, 0, 0⟩), .ptr (some ⟨h.length, 0, 0⟩)]] (h ++ T1) = some (.bool (L.ss.all fun s => decide ((0 ≤ s.rib ∧ s.rib ≤ L.R - 1) ∧ (0 ≤ s.lo ∧ s.lo ≤ L.T - 1) ∧ (0 ≤ s.hi ∧ s.hi ≤ L.T - 1))), h ++ T1) := fun {base} =>
            every_S _ hS.app (fun base T x hx => run_chk4 (by omega) (by omega) (get_app g1) (get_app g0)) ⟨rfl, rfl, rfl⟩
          have n0 : ¬ (¬ (1 ≤ L.R ∧ L.R ≤ 6) ∨ ¬ (1 ≤ L.T ∧ L.T ≤ 12) ∨ ¬ (1 ≤ (L.ps.length : Int) ∧ (L.ps.length : Int) ≤ 6) ∨ (L.ss.length : Int) > 10 ∨ ¬ (L.ps.all fun p => decide (0 < p.rib.length)) = true) ↔ (L.ps.all fun p => decide (0 < p.rib.length)) = true := by
            constructor
            · exact fun hh => Classical.byContradiction fun hn => hh (.inr (.inr (.inr (.inr hn))))
            · rintro hb (q | q | q | q | q)
              · exact q c1
              · exact q c2
              · exact q c3
              · exact c4 q
              · exact q hb
          cases b1 : (L.ps.all fun p => decide (0 < p.rib.length)) with
          | false =>
            have r : chkM L = 2 := by unfold chkM; rw [if_pos (.inr (.inr (.inr (.inr (by rw [b1]; decide)))))]
            rw [b1] at e1
            rw [r]
            have hsp := @Nat.succ_ne_zero; repeat' (first | simp (disch := first | exact dschE5 | fail) only [go_sem, hsp, t1, t2, t3, t4, eH, g0, g1, hlp, hls, e1] | refine WP_drw ?_ | refine cnd_intro (fun hsp => ?_) fun hsp => ?_)
            exact fI rfl
          | true =>
            rw [b1] at e1
            cases b2 : (L.ps.all fun p => decide ((1 ≤ p.each ∧ p.each ≤ 4) ∧ (0 ≤ p.ph ∧ p.ph ≤ p.each - 1))) with
            | false =>
              have r : chkM L = 3 := by unfold chkM; rw [if_neg (n0.2 b1), if_pos (by rw [b2]; decide)]
              rw [b2] at e2
              rw [r]
              have hsp := @Nat.succ_ne_zero; repeat' (first | simp (disch := first | exact dschE5 | fail) only [go_sem, hsp, t1, t2, t3, t4, eH, g0, g1, hlp, hls, e1, e2] | refine WP_drw ?_ | refine cnd_intro (fun hsp => ?_) fun hsp => ?_)
              exact fI rfl
            | true =>
              rw [b2] at e2
              cases b3 : (L.ps.all fun p => p.rib.all fun r => decide (0 ≤ r ∧ r ≤ L.R - 1)) with
              | false =>
                have r : chkM L = 1 := by unfold chkM; rw [if_neg (n0.2 b1), if_neg (by rw [b2]; decide), if_pos (.inl (by rw [b3]; decide))]
                rw [b3] at e3
                rw [r]
                have hsp := @Nat.succ_ne_zero; repeat' (first | simp (disch := first | exact dschE5 | fail) only [go_sem, hsp, t1, t2, t3, t4, eH, g0, g1, hlp, hls, e1, e2, e3] | refine WP_drw ?_ | refine cnd_intro (fun hsp => ?_) fun hsp => ?_)
                exact fI rfl
              | true =>
                rw [b3] at e3
                cases b4 : (L.ss.all fun s => decide ((0 ≤ s.rib ∧ s.rib ≤ L.R - 1) ∧ (0 ≤ s.lo ∧ s.lo ≤ L.T - 1) ∧ (0 ≤ s.hi ∧ s.hi ≤ L.T - 1))) with
                | false =>
                  have r : chkM L = 1 := by unfold chkM; rw [if_neg (n0.2 b1), if_neg (by rw [b2]; decide), if_pos (.inr (by rw [b4]; decide))]
                  rw [b4] at e4
                  rw [r]
                  have hsp := @Nat.succ_ne_zero; repeat' (first | simp (disch := first | exact dschE5 | fail) only [go_sem, hsp, t1, t2, t3, t4, eH, g0, g1, hlp, hls, e1, e2, e3, e4] | refine WP_drw ?_ | refine cnd_intro (fun hsp => ?_) fun hsp => ?_)
                  exact fI rfl
                | true =>
                  rw [b4] at e4
                  cases b5 : (L.ps.all fun p => riseB p.rib) with
                  | false =>
                    have r : chkM L = 4 := by unfold chkM; rw [if_neg (n0.2 b1), if_neg (by rw [b2]; decide), if_neg (by rw [b3, b4]; decide), if_pos (.inl (by rw [b5]; decide))]
                    rw [b5] at e5
                    rw [r]
                    have hsp := @Nat.succ_ne_zero; repeat' (first | simp (disch := first | exact dschE5 | fail) only [go_sem, hsp, t1, t2, t3, t4, eH, g0, g1, hlp, hls, e1, e2, e3, e4, e5] | refine WP_drw ?_ | refine cnd_intro (fun hsp => ?_) fun hsp => ?_)
                    exact fI rfl
                  | true =>
                    rw [b5] at e5
                    cases b6 : (L.ss.all fun s => decide (s.lo ≤ s.hi)) with
                    | false =>
                      have r : chkM L = 4 := by unfold chkM; rw [if_neg (n0.2 b1), if_neg (by rw [b2]; decide), if_neg (by rw [b3, b4]; decide), if_pos (.inr (by rw [b6]; decide))]
                      rw [b6] at e6
                      rw [r]
                      have hsp := @Nat.succ_ne_zero; repeat' (first | simp (disch := first | exact dschE5 | fail) only [go_sem, hsp, t1, t2, t3, t4, eH, g0, g1, hlp, hls, e1, e2, e3, e4, e5, e6] | refine WP_drw ?_ | refine cnd_intro (fun hsp => ?_) fun hsp => ?_)
                      exact fI rfl
                    | true =>
                      rw [b6] at e6
                      have r : chkM L = 0 := by unfold chkM; rw [if_neg (n0.2 b1), if_neg (by rw [b2]; decide), if_neg (by rw [b3, b4]; decide), if_neg (by rw [b5, b6]; decide)]
                      rw [r]
                      have hsp := @Nat.succ_ne_zero; repeat' (first | simp (disch := first | exact dschE5 | fail) only [go_sem, hsp, t1, t2, t3, t4, eH, g0, g1, hlp, hls, e1, e2, e3, e4, e5, e6] | refine WP_drw ?_ | refine cnd_intro (fun hsp => ?_) fun hsp => ?_)
                      exact fI rfl
      · have t3 : (1 ≤ (L.ps.length : Int) ∧ (L.ps.length : Int) ≤ 6) = False := eq_false c3
        have r : chkM L = 2 := by unfold chkM; rw [if_pos (.inr (.inr (.inl c3)))]
        rw [r]
        have hsp := @Nat.succ_ne_zero; repeat' (first | simp (disch := first | exact dschE5 | fail) only [go_sem, hsp, t1, t2, t3, eH, g0, g1, hlp, hls] | refine WP_drw ?_ | refine cnd_intro (fun hsp => ?_) fun hsp => ?_)
        exact fI rfl
    · have t2 : (1 ≤ L.T ∧ L.T ≤ 12) = False := eq_false c2
      have r : chkM L = 2 := by unfold chkM; rw [if_pos (.inr (.inl c2))]
      rw [r]
      have hsp := @Nat.succ_ne_zero; repeat' (first | simp (disch := first | exact dschE5 | fail) only [go_sem, hsp, t1, t2, eH, g0, g1] | refine WP_drw ?_ | refine cnd_intro (fun hsp => ?_) fun hsp => ?_)
      exact fI rfl
  · have t1 : (1 ≤ L.R ∧ L.R ≤ 6) = False := eq_false c1
    have r : chkM L = 2 := by unfold chkM; rw [if_pos (.inl c1)]
    rw [r]
    have hsp := @Nat.succ_ne_zero; repeat' (first | simp (disch := first | exact dschE5 | fail) only [go_sem, hsp, t1, eH, g0, g1] | refine WP_drw ?_ | refine cnd_intro (fun hsp => ?_) fun hsp => ?_)
    exact fI rfl
end Go.AM
/-
  Contracts: parts and sights that exist, the error of a break, spots of a sight.
-/
namespace Go.AM
open Go.Proofs.Tryz
theorem dschE6 {p : Prop} (h : p := by first | exact Nat.ne_of_beq_eq_false rfl | assumption | (apply asOne; (first | exact One.int | exact One.bool | assumption | exact Ints.one (by assumption) | exact Rows.one (by assumption) | exact Own.one (by assumption) | exact One.lit ⟨rfl, rfl, rfl⟩)) | (apply asInts; (repeat first | assumption | exact ints_nil | apply Ints.app); done) | (apply asRows; (repeat first | assumption | exact Rows.nil | apply Rows.app); done) | (apply asScal; (first | apply allS1 | apply allS2 | apply allS3 | apply allS4) <;> (first | exact One.int | exact One.bool | assumption | exact Ints.one (by assumption) | exact Rows.one (by assumption) | exact Own.one (by assumption) | exact One.lit ⟨rfl, rfl, rfl⟩)) | exact litT rfl | exact litF rfl | omega | (simp only [List.length_append, List.length_cons, List.length_nil, List.length_set, List.length_reverse]; first | done | omega) | fail) : p := h
theorem Parts.len {h : Heap} {v : AVal} {ps : List Prt} (x : Parts h v ps) : lenOpA prog h 22 v = some (.int .i64 (ps.length : Int)) := by
  obtain ⟨vs, h1, h2, _⟩ := x
  have := h1.len (P := prog) Fc.el22
  rwa [h2] at this
theorem Parts.one {h : Heap} {v : AVal} {ps : List Prt} (x : Parts h v ps) : One v := by
  obtain ⟨vs, h1, _⟩ := x
  exact h1.one
theorem run_part {base : Nat} {h : Heap} {R T n : Int} {pv sv : AVal} {ps : List Prt} (hP : Parts h pv ps) (hS : One sv) (hl : ps.length ≤ 1048576) : callL prog raw base (.fn 75 [] []) [lomV R T pv sv, .int .i64 n] h = some (.bool (decide (0 ≤ n ∧ n ≤ (ps.length : Int) - 1)), h) := by
  have hn : ∀ {T' : Heap}, lenOpA prog (h ++ T') 22 pv = some (.int .i64 (ps.length : Int)) := fun {T'} => (hP.ext (.app .refl)).len
  have ho := hP.one
  refine callL_run func75 rfl rfl ?_
  have hsp := @Nat.succ_ne_zero; repeat' (first | simp (disch := first | exact dschE6 | fail) only [go_sem, hsp, hn] | refine WP_drw ?_ | refine cnd_intro (fun hsp => ?_) fun hsp => ?_)
  exact fB rfl
/-- The error of a break. -/
def brkM (L : Lom) (b : Int × Int × Int) : Int :=
  if ¬ (0 ≤ b.1 ∧ b.1 ≤ (L.ps.length : Int) - 1) then 1 else
  if ¬ (0 ≤ b.2.1 ∧ b.2.1 ≤ L.T - 1) ∨ ¬ (0 ≤ b.2.2 ∧ b.2.2 ≤ L.T - 1) ∨ b.2.1 > b.2.2 then 3 else 0
/-- Has a sight a spot? -/
def hasB (s : Sgt) (x : Int × Int) : Bool := decide (x.1 = s.rib ∧ s.lo ≤ x.2 ∧ x.2 ≤ s.hi)
theorem run_has {base : Nat} {h : Heap} {s : Sgt} {x : Int × Int} : callL prog raw base (.fn 139 [.agg (encS.cells s)] []) [.agg (encT.cells x)] h = some (.bool (hasB s x), h) := by
  simp only [encS, encT]
  refine callL_run func139 rfl rfl ?_
  by_cases c1 : x.1 = s.rib
  · have t1 : (x.1 = s.rib) = True := eq_true c1
    have hsp := @Nat.succ_ne_zero; repeat' (first | simp (disch := first | exact dschE6 | fail) only [go_sem, hsp, t1, Fc.eq101, and_true, true_and, eq_self] | refine WP_drw ?_ | refine cnd_intro (fun hsp => ?_) fun hsp => ?_)
    refine fB ?_
    unfold hasB
    simp [c1]
  · have t1 : (x.1 = s.rib) = False := eq_false c1
    have hsp := @Nat.succ_ne_zero; repeat' (first | simp (disch := first | exact dschE6 | fail) only [go_sem, hsp, t1, Fc.eq101, false_and, and_true, eq_self] | refine WP_drw ?_ | refine cnd_intro (fun hsp => ?_) fun hsp => ?_)
    refine fB ?_
    unfold hasB
    simp [c1]
end Go.AM
/-
  Contracts: the spots that a break spoils.
-/
namespace Go.AM
open Go.Proofs.Tryz
theorem dschE7 {p : Prop} (h : p := by first | exact Nat.ne_of_beq_eq_false rfl | assumption | (apply asOne; (first | exact One.int | exact One.bool | assumption | exact Ints.one (by assumption) | exact Rows.one (by assumption) | exact Own.one (by assumption) | exact One.lit ⟨rfl, rfl, rfl⟩)) | (apply asInts; (repeat first | assumption | exact ints_nil | apply Ints.app); done) | (apply asRows; (repeat first | assumption | exact Rows.nil | apply Rows.app); done) | (apply asScal; (first | apply allS1 | apply allS2 | apply allS3 | apply allS4) <;> (first | exact One.int | exact One.bool | assumption | exact Ints.one (by assumption) | exact Rows.one (by assumption) | exact Own.one (by assumption) | exact One.lit ⟨rfl, rfl, rfl⟩)) | exact litT rfl | exact litF rfl | omega | (simp only [List.length_append, List.length_cons, List.length_nil, List.length_set, List.length_reverse]; first | done | omega) | fail) : p := h
attribute [-go_sem] put_ne put_same
attribute [local go_sem ↓] put_if
/-- The throws at which a part works, n of them from a on. -/
def thr (each ph : Int) (a : Nat) : Nat → List Int
  | 0 => []
  | n + 1 => thr each ph a n ++ (if ((a + n : Nat) : Int).tmod each = ph then [((a + n : Nat) : Int)] else [])
def spotsR (p : Prt) (a n : Nat) (i : Nat) : List (Int × Int) := (p.rib.take i).flatMap fun r => (thr p.each p.ph a n).map fun t => (r, t)
def spotsN (p : Prt) (a n : Nat) : List (Int × Int) := p.rib.flatMap fun r => (thr p.each p.ph a n).map fun t => (r, t)
theorem thr_len {each ph : Int} {a : Nat} : ∀ n, (thr each ph a n).length ≤ n
  | 0 => Nat.le_refl _
  | n + 1 => by
    have := thr_len (each := each) (ph := ph) (a := a) n
    simp only [thr, List.length_append]
    split <;> simp <;> omega
theorem spotsR_succ {p : Prt} {a n i : Nat} (hi : i < p.rib.length) : spotsR p a n (i + 1) = spotsR p a n i ++ (thr p.each p.ph a n).map fun t => (p.rib.getD i 0, t) := by
  unfold spotsR
  rw [List.take_add_one, List.getElem?_eq_getElem hi, List.flatMap_append, List.getD_eq_getElem?_getD, List.getElem?_eq_getElem hi]
  simp
theorem spotsR_len {p : Prt} {a n : Nat} : ∀ i, i ≤ p.rib.length → (spotsR p a n i).length ≤ i * n
  | 0, _ => by simp [spotsR]
  | i + 1, h => by
    have ih := spotsR_len (p := p) (a := a) (n := n) i (by omega)
    have := thr_len (each := p.each) (ph := p.ph) (a := a) n
    rw [spotsR_succ (by omega), List.length_append, List.length_map, Nat.succ_mul]
    omega
theorem bsT {lit : Bool} {h : Heap} {a b : Int} : bsA prog lit h 96 1 [(0, .agg [.int .i64 a, .int .i64 b])] = some (.slice (some ⟨h.length, 0, 0⟩) 1 1, h ++ [rowE encT 101 [(a, b)] 0]) := by
  simp [bsA, rowOf, Fc.el96, fillA, repCells, AVal.isN, AVal.cells, splice, rowE, flat, encT]
theorem stE7 {base : Nat} {l : List Oper} {s : St} {Q : AExit → St → Prop} : WP prog raw base (.region 3 l.toArray false) s Q = WPS prog raw base (.region 3 l.toArray false) s Q := WP_stop
attribute [local go_sem ↓ 3000] stE7
set_option maxHeartbeats 1000000 in
theorem run_spots {base : Nat} {h : Heap} {L : Lom} {pv sv : AVal} {b : Int × Int × Int} {k : Nat} {p : Prt} (hb : base ≤ h.length) (hP : Parts h pv L.ps) (hS : One sv) (hp : L.ps[k]? = some p) (hk : b.1 = (k : Int)) (h0 : 0 ≤ b.2.1) (h1 : -1000 ≤ b.2.2 ∧ b.2.2 ≤ 1000) (h2 : b.2.1 ≤ 1000) (he : 1 ≤ p.each ∧ p.each ≤ 1000) (hrl : p.rib.length ≤ 1000) :
    Ret prog raw base (.fn 113 [] []) [lomV L.R L.T pv sv, .agg (encB.cells b)] h (fun v H => Ext h H ∧ Own encT 101 h.length H v (spotsN p b.2.1.toNat (b.2.2 + 1 - b.2.1).toNat)) := by
  obtain ⟨vs, hR, hvl, h3⟩ := hP
  have hkl : k < L.ps.length := (List.getElem?_eq_some_iff.1 hp).1
  have hx : vs[k]? = some vs[k] := List.getElem?_eq_getElem (by omega)
  obtain ⟨q1, q2, q3, q4⟩ := h3 k _ _ hx hp
  have had := hR.addr (P := prog) (i := (k : Int)) Fc.el22 Fc.ar22 (by omega) (by omega)
  rw [Int.toNat_natCast] at had
  have hld : ∀ {T : Heap}, loadP prog (h ++ T) 81 (elAdr pv encP.z k 0) = some (.agg [vs[k].v, .int .i64 p.each, .int .i64 p.ph, .bool p.wv]) := fun {T} => by
    rw [hR.app.load Fc.ty81 hx]
    show some (AVal.agg [norm vs[k].v, .int .i64 vs[k].each, .int .i64 vs[k].ph, .bool vs[k].wv]) = _
    rw [norm_one q1.one, q2, q3, q4]
  have hld2 : ∀ {a c d : ABlk}, loadP prog (h ++ [a] ++ [c] ++ [d]) 81 (elAdr pv encP.z k 0) = some (.agg [vs[k].v, .int .i64 p.each, .int .i64 p.ph, .bool p.wv]) := fun {a c d} => by rw [List.append_assoc, List.append_assoc]; exact hld
  have hld1 : ∀ {a c : ABlk}, loadP prog (h ++ [a] ++ [c]) 81 (elAdr pv encP.z k 0) = some (.agg [vs[k].v, .int .i64 p.each, .int .i64 p.ph, .bool p.wv]) := fun {a c} => by rw [List.append_assoc]; exact hld
  have ho := hR.one
  have ho2 := q1.one
  simp only [encB]
  refine ret_raw func113 rfl (by kernel_rfl) ?_
  have hsp := @Nat.succ_ne_zero; repeat' (first | simp (disch := first | exact dschE7 | fail) only [go_sem, ↓reduceIte, hsp, hk, had, hld1, hld2] | refine WP_drw ?_ | refine cnd_intro (fun hsp => ?_) fun hsp => ?_)
  refine WPS_rest fun F G eF eG => ?_
  rw [WP_region]
  have kF3 := congrFun eF 3
  have kF5 := congrFun eF 5
  have kF6 := congrFun eF 6
  try simp (disch := first | exact dschE7 | fail) only [go_sem, ↓reduceIte] at kF3 kF5 kF6
  have gF3 := congrArg (fun X => atP X (F 3)) eG
  have gF6 := congrArg (fun X => atP X (F 6)) eG
  try simp only [kF3, kF6, atP_ptr] at gF3 gF6
  have lG := congrArg List.length eG
  try simp (disch := first | exact dschE7 | fail) only [go_sem, ↓reduceIte] at gF3 gF6 lG
  have xG : Ext h G := by rw [eG]; repeat' first | exact Ext.refl | refine Ext.app ?_
  have qG := q1.ext xG
  have hG := xG.len
  clear eG lG eF had hld hld1 hld2
  obtain ⟨a, ea⟩ := Int.eq_ofNat_of_zero_le h0
  obtain ⟨n, en⟩ : ∃ n : Nat, (b.2.2 + 1 - b.2.1).toNat = n := ⟨_, rfl⟩
  have ea2 : b.2.1.toNat = a := by omega
  rw [en, ea2]
  have hn : n ≤ 2001 := by omega
  have hsp := @Nat.succ_ne_zero; repeat' (first | simp (disch := first | exact dschE7 | fail) only [go_sem, ↓reduceIte, hsp, kF3, kF5, kF6, gF3, gF6, gF3, gF6] | refine WP_drw ?_ | refine cnd_intro (fun hsp => ?_) fun hsp => ?_)
  refine WP_count [(5, 5), (8, 9), (19, 44)] 0 p.rib.length (Nat.zero_le _) (fun H i fr h' => fr 19 = .int .i64 (i : Int) ∧ Ext G h' ∧ ∃ v, fr 5 = v ∧ Own encT 101 G.length h' v (spotsR p a n i)) ?_ ?_ ?_
  · exact ⟨by (simp (disch := first | exact dschE7 | fail) only [go_sem, ↓reduceIte, Int.natCast_zero]; first | done | rfl), .refl, .slice none 0 0, by simp (disch := first | exact dschE7 | fail) only [go_sem, ↓reduceIte, kF3, kF5, kF6, gF3, gF6], by simp only [spotsR, List.take_zero, List.flatMap_nil]; exact Own.nil⟩
  · rintro i fr H hi0 hi hA ⟨r19, xH, v, r5, hO⟩
    have p3 := hA 3 rfl
    have p6 := hA 6 rfl
    try simp (disch := first | exact dschE7 | fail) only [go_sem, ↓reduceIte, kF3, kF6] at p3 p6
    have p17 := hA 17 rfl; simp (disch := first | exact dschE7 | fail) only [go_sem, ↓reduceIte] at p17
    have p18 := hA 18 rfl; simp (disch := first | exact dschE7 | fail) only [go_sem, ↓reduceIte] at p18
    have g3 := xH.get gF3
    have g6 := xH.get gF6
    have hIH := qG.ext xH
    have hlt : ((i : Int) < (p.rib.length : Int)) = True := eq_true (by omega)
    have hii : (i : Int) < (p.rib.length : Int) := by omega
    have hsp := @Nat.succ_ne_zero; repeat' (first | simp (disch := first | exact dschE7 | fail) only [go_sem, ↓reduceIte, hsp, r19, r5, p3, p6, p17, p18, hlt, g3, ea, Int.toNat_natCast] | refine WP_drw ?_ | refine cnd_intro (fun hsp => ?_) fun hsp => ?_)
    refine WP_count [(5, 5), (9, 9), (25, 43)] 0 n (Nat.zero_le _) (fun _ j fr h' => fr 9 = .int .i64 ((a + j : Nat) : Int) ∧ Ext G h' ∧ ∃ v, fr 5 = v ∧ Own encT 101 G.length h' v (spotsR p a n i ++ (thr p.each p.ph a j).map fun t => (p.rib.getD i 0, t))) ?_ ?_ ?_
    · exact ⟨by (simp (disch := first | exact dschE7 | fail) only [go_sem, ↓reduceIte, Int.natCast_zero]; first | done | rfl), xH, v, by simp (disch := first | exact dschE7 | fail) only [go_sem, ↓reduceIte, r5], by simpa [thr] using hO⟩
    · rintro j fr2 H2 hj0 hj hA2 ⟨q9, xH2, v2, q5, hO2⟩
      have q3 := hA2 3 rfl
      have q6 := hA2 6 rfl
      try simp (disch := first | exact dschE7 | fail) only [go_sem, ↓reduceIte, p3, p6] at q3 q6
      have q8 := hA2 8 rfl; simp (disch := first | exact dschE7 | fail) only [go_sem, ↓reduceIte] at q8
      have g3' := xH2.get gF3
      have g6' := xH2.get gF6
      have hlt2 : (((a + j : Nat) : Int) ≤ b.2.2) = True := eq_true (by omega)
      have hrem : binA prog .rem 3 (.int .i64 ((a + j : Nat) : Int)) (.int .i64 p.each) = some (.int .i64 (((a + j : Nat) : Int).tmod p.each)) := bin_rem (by omega)
      have hbd : a + j ≤ 3001 := by omega
      by_cases ht : ((a + j : Nat) : Int).tmod p.each = p.ph
      · have t1 : (((a + j : Nat) : Int).tmod p.each = p.ph) = True := eq_true ht
        have hl1 := spotsR_len (p := p) (a := a) (n := n) i (by omega)
        have hl2 := thr_len (each := p.each) (ph := p.ph) (a := a) j
        have hl3 : i * n ≤ 1000 * 2001 := Nat.mul_le_mul (by omega) hn
        obtain ⟨v', h', ea', hO', hle, hE, h1'⟩ := (hO2.app (T := [rowE encT 101 [(p.rib.getD i 0, ((a + j : Nat) : Int))] 0])).appendR (x := .slice (some ⟨H2.length, 0, 0⟩) 1 1) (m := [(p.rib.getD i 0, ((a + j : Nat) : Int))]) (base := base) (t := 96) (Rows.own (get_eq rfl) rfl (by simp)) Fc.el96 encT_sc (by omega) (by have := xH2.len; simp; omega) (by simp) (by simp; omega)
        have hsp := @Nat.succ_ne_zero; repeat' (first | simp (disch := first | exact dschE7 | fail) only [go_sem, ↓reduceIte, hsp, q9, q5, q3, q6, q8, hlt2, g3', g6', hrem, t1, bsT, ea'] | refine WP_drw ?_ | refine cnd_intro (fun hsp => ?_) fun hsp => ?_)
        refine ⟨by (repeat first | exact Agree.refl | assumption | refine Agree.put rfl ?_ | refine Agree.put0 ?_ | refine Agree.sub rfl (by assumption) ?_), by omega, hE G (Nat.le_refl _) (Ext.app xH2), v', rfl, ?_⟩
        rw [thr, if_pos ht, List.map_append, ← List.append_assoc]
        exact hO'
      · have t1 : (((a + j : Nat) : Int).tmod p.each = p.ph) = False := eq_false ht
        have hsp := @Nat.succ_ne_zero; repeat' (first | simp (disch := first | exact dschE7 | fail) only [go_sem, ↓reduceIte, hsp, q9, q5, q3, q6, q8, hlt2, g3', g6', hrem, t1] | refine WP_drw ?_ | refine cnd_intro (fun hsp => ?_) fun hsp => ?_)
        refine ⟨by (repeat first | exact Agree.refl | assumption | refine Agree.put rfl ?_ | refine Agree.put0 ?_ | refine Agree.sub rfl (by assumption) ?_), by omega, xH2, v2, rfl, ?_⟩
        rw [thr, if_neg ht, List.append_nil]
        exact hO2
    · rintro fr2 H2 hA2 ⟨q9, xH2, v2, q5, hO2⟩
      have q3 := hA2 3 rfl
      have q6 := hA2 6 rfl
      try simp (disch := first | exact dschE7 | fail) only [go_sem, ↓reduceIte, p3, p6] at q3 q6
      have q19 := hA2 19 rfl; simp (disch := first | exact dschE7 | fail) only [go_sem, ↓reduceIte, r19] at q19
      have g3' := xH2.get gF3
      have hlt2 : (((a + n : Nat) : Int) ≤ b.2.2) = False := eq_false (by omega)
      have hsp := @Nat.succ_ne_zero; repeat' (first | simp (disch := first | exact dschE7 | fail) only [go_sem, ↓reduceIte, hsp, q9, q5, q3, q6, q19, hlt2, g3'] | refine WP_drw ?_ | refine cnd_intro (fun hsp => ?_) fun hsp => ?_)
      refine ⟨by (repeat first | exact Agree.refl | assumption | refine Agree.put rfl ?_ | refine Agree.put0 ?_ | refine Agree.sub rfl (by assumption) ?_), by omega, xH2, v2, rfl, ?_⟩
      rw [spotsR_succ hi]
      exact hO2
  · rintro fr H hA ⟨r19, xH, v, r5, hO⟩
    have p18 := hA 18 rfl; simp (disch := first | exact dschE7 | fail) only [go_sem, ↓reduceIte] at p18
    have hlt : ((p.rib.length : Int) < (p.rib.length : Int)) = False := eq_false (by omega)
    have hsp := @Nat.succ_ne_zero; repeat' (first | simp (disch := first | exact dschE7 | fail) only [go_sem, ↓reduceIte, hsp, r19, r5, p18, hlt] | refine WP_drw ?_ | refine cnd_intro (fun hsp => ?_) fun hsp => ?_)
    refine ⟨Ext.trans xG xH, ?_⟩
    have : spotsR p a n p.rib.length = spotsN p a n := by unfold spotsR spotsN; rw [List.take_length]
    rw [← this]
    exact hO.low hG
end Go.AM
/-
  Contracts: what a break spoils, or the errors.
-/
namespace Go.AM
open Go.Proofs.Tryz
theorem chkM_ok {L : Lom} (h : chkM L = 0) : (1 ≤ L.R ∧ L.R ≤ 6) ∧ (1 ≤ L.T ∧ L.T ≤ 12) ∧ (1 ≤ L.ps.length ∧ L.ps.length ≤ 6) ∧ L.ss.length ≤ 10 ∧
    (∀ p ∈ L.ps, 0 < p.rib.length ∧ (1 ≤ p.each ∧ p.each ≤ 4) ∧ (0 ≤ p.ph ∧ p.ph ≤ p.each - 1) ∧ (∀ r ∈ p.rib, 0 ≤ r ∧ r ≤ L.R - 1) ∧ riseB p.rib = true) ∧
    (∀ s ∈ L.ss, (0 ≤ s.rib ∧ s.rib ≤ L.R - 1) ∧ (0 ≤ s.lo ∧ s.lo ≤ L.T - 1) ∧ (0 ≤ s.hi ∧ s.hi ≤ L.T - 1) ∧ s.lo ≤ s.hi) := by
  unfold chkM at h
  split at h
  · cases h
  · rename_i h1
    split at h
    · cases h
    · rename_i h2
      split at h
      · cases h
      · rename_i h3
        split at h
        · cases h
        · rename_i h4
          simp only [not_or, Classical.not_not] at h1 h2 h3 h4
          obtain ⟨a1, a2, a3, a4, a5⟩ := h1
          refine ⟨a1, a2, by omega, by omega, fun p hp => ?_, fun s hs => ?_⟩
          · have b1 := of_decide_eq_true (List.all_eq_true.1 a5 p hp)
            have b2 := of_decide_eq_true (List.all_eq_true.1 h2 p hp)
            have b3 := List.all_eq_true.1 (List.all_eq_true.1 h3.1 p hp)
            exact ⟨b1, b2.1, b2.2, fun r hr => of_decide_eq_true (b3 r hr), List.all_eq_true.1 h4.1 p hp⟩
          · have b1 := of_decide_eq_true (List.all_eq_true.1 h3.2 s hs)
            have b2 := of_decide_eq_true (List.all_eq_true.1 h4.2 s hs)
            exact ⟨b1.1, b1.2.1, b1.2.2, b2⟩
/-- fault.Spoils: the spots, the error. -/
def splM (L : Lom) (b : Int × Int × Int) : List (Int × Int) × Int :=
  if chkM L ≠ 0 then ([], chkM L) else if brkM L b ≠ 0 then ([], brkM L b) else (spotsN (L.ps.getD b.1.toNat ⟨[], 1, 0, false⟩) b.2.1.toNat (b.2.2 + 1 - b.2.1).toNat, 0)
end Go.AM
/-
  Contracts: all sights; whether a list has a number, and where.
-/
namespace Go.AM
open Go.Proofs.Tryz
theorem dschE9 {p : Prop} (h : p := by first | exact Nat.ne_of_beq_eq_false rfl | assumption | (apply asOne; (first | exact One.int | exact One.bool | assumption | exact Ints.one (by assumption) | exact Rows.one (by assumption) | exact Own.one (by assumption) | exact One.lit ⟨rfl, rfl, rfl⟩)) | (apply asInts; (repeat first | assumption | exact ints_nil | apply Ints.app); done) | (apply asRows; (repeat first | assumption | exact Rows.nil | apply Rows.app); done) | (apply asScal; (first | apply allS1 | apply allS2 | apply allS3 | apply allS4) <;> (first | exact One.int | exact One.bool | assumption | exact Ints.one (by assumption) | exact Rows.one (by assumption) | exact Own.one (by assumption) | exact One.lit ⟨rfl, rfl, rfl⟩)) | exact litT rfl | exact litF rfl | omega | (simp only [List.length_append, List.length_cons, List.length_nil, List.length_set, List.length_reverse]; first | done | omega) | fail) : p := h
attribute [-go_sem] put_ne put_same
attribute [local go_sem ↓] put_if
def upto (n : Nat) : List Int := lst (fun i => (i : Int)) n
theorem upto_succ {n : Nat} : upto (n + 1) = upto n ++ [(n : Int)] := lst_succ
theorem upto_len {n : Nat} : (upto n).length = n := lst_len
set_option maxHeartbeats 1000000 in
theorem run_whole {base : Nat} {h : Heap} {R T : Int} {pv sv : AVal} {ss : List Sgt} (hb : base ≤ h.length) (hP : One pv) (hS : Rows encS h sv ss) (hl : ss.length ≤ 1048576) :
    Ret prog raw base (.fn 85 [] []) [lomV R T pv sv] h (fun v H => Ext h H ∧ Own encI 3 h.length H v (upto ss.length)) := by
  have hn : ∀ {T' : Heap}, lenOpA prog (h ++ T') 23 sv = some (.int .i64 (ss.length : Int)) := fun {T'} => hS.app.len Fc.el23
  have ho := hS.one
  refine ret_raw func85 rfl (by kernel_rfl) ?_
  have hsp := @Nat.succ_ne_zero; repeat' (first | simp (disch := first | exact dschE9 | fail) only [go_sem, ↓reduceIte, hsp, hn] | refine WP_drw ?_ | refine cnd_intro (fun hsp => ?_) fun hsp => ?_)
  refine WP_count [(3, 4), (8, 16)] 0 ss.length (Nat.zero_le _) (fun H0 i fr h' => fr 8 = .int .i64 (i : Int) ∧ Ext H0 h' ∧ ∃ v, fr 3 = v ∧ Own encI 3 H0.length h' v (upto i)) ?_ ?_ ?_
  · exact ⟨by (simp (disch := first | exact dschE9 | fail) only [go_sem, ↓reduceIte, Int.natCast_zero]; first | done | rfl), .refl, .slice none 0 0, by simp (disch := first | exact dschE9 | fail) only [go_sem, ↓reduceIte], Own.nil⟩
  · rintro i fr H hi0 hi hA ⟨r8, xH, v, r3, hO⟩
    have p7 := hA 7 rfl; simp (disch := first | exact dschE9 | fail) only [go_sem, ↓reduceIte] at p7
    have hlt : ((i : Int) < (ss.length : Int)) = True := eq_true (by omega)
    have hlen := xH.len
    have hul := upto_len (n := i)
    obtain ⟨v', h', ea, hO', hle, hE, h1'⟩ := hO.append1 (y := (i : Int)) (base := base) (t := 36) rfl rfl Fc.el36 encI_sc (by simp only [List.length_append, List.length_cons, List.length_nil]; omega) hlen (by omega)
    have hsp := @Nat.succ_ne_zero; repeat' (first | simp (disch := first | exact dschE9 | fail) only [go_sem, ↓reduceIte, hsp, r8, r3, p7, hlt, ea] | refine WP_drw ?_ | refine cnd_intro (fun hsp => ?_) fun hsp => ?_)
    refine ⟨by (repeat first | exact Agree.refl | assumption | refine Agree.put rfl ?_ | refine Agree.put0 ?_ | refine Agree.sub rfl (by assumption) ?_), by omega, hE _ (Nat.le_refl _) xH, v', rfl, ?_⟩
    rw [upto_succ]
    simpa only [List.length_append, List.length_cons, List.length_nil] using hO'
  · rintro fr H hA ⟨r8, xH, v, r3, hO⟩
    have p7 := hA 7 rfl; simp (disch := first | exact dschE9 | fail) only [go_sem, ↓reduceIte] at p7
    have hlt : ((ss.length : Int) < (ss.length : Int)) = False := eq_false (by omega)
    have hsp := @Nat.succ_ne_zero; repeat' (first | simp (disch := first | exact dschE9 | fail) only [go_sem, ↓reduceIte, hsp, r8, r3, p7, hlt] | refine WP_drw ?_ | refine cnd_intro (fun hsp => ?_) fun hsp => ?_)
    exact ⟨Ext.trans (.app .refl) xH, hO.low (by simp only [List.length_append, List.length_cons, List.length_nil]; omega)⟩
end Go.AM
/-
  Contracts: the numbers of the throws that are set.
-/
namespace Go.AM
open Go.Proofs.Tryz
theorem dschE10 {p : Prop} (h : p := by first | exact Nat.ne_of_beq_eq_false rfl | assumption | (apply asOne; (first | exact One.int | exact One.bool | assumption | exact Ints.one (by assumption) | exact Rows.one (by assumption) | exact Own.one (by assumption) | exact One.lit ⟨rfl, rfl, rfl⟩)) | (apply asInts; (repeat first | assumption | exact ints_nil | apply Ints.app); done) | (apply asRows; (repeat first | assumption | exact Rows.nil | apply Rows.app); done) | (apply asScal; (first | apply allS1 | apply allS2 | apply allS3 | apply allS4) <;> (first | exact One.int | exact One.bool | assumption | exact Ints.one (by assumption) | exact Rows.one (by assumption) | exact Own.one (by assumption) | exact One.lit ⟨rfl, rfl, rfl⟩)) | exact litT rfl | exact litF rfl | omega | (simp only [List.length_append, List.length_cons, List.length_nil, List.length_set, List.length_reverse]; first | done | omega) | fail) : p := h
attribute [-go_sem] put_ne put_same
attribute [local go_sem ↓] put_if
/-- The places below n where the list says yes. -/
def numsN (l : List Bool) (n : Nat) : List Int := (upto n).filter fun i => l.getD i.toNat false
theorem numsN_succ {l : List Bool} {n : Nat} : numsN l (n + 1) = numsN l n ++ (if l.getD n false then [(n : Int)] else []) := by
  unfold numsN
  rw [upto_succ, List.filter_append]
  congr 1
  simp only [List.filter_cons, List.filter_nil, Int.toNat_natCast]
theorem numsN_len {l : List Bool} {n : Nat} : (numsN l n).length ≤ n := by
  have := List.length_filter_le (fun i : Int => l.getD i.toNat false) (upto n)
  rw [upto_len] at this
  exact this
set_option maxHeartbeats 1000000 in
theorem run_numbers {base : Nat} {h : Heap} {l : List Bool} {m : Nat} (hb : base ≤ h.length) (hl : l.length = 12) (hm : m ≤ 12) :
    Ret prog raw base (.fn 79 [] []) [.agg (l.map .bool), .int .i64 (m : Int)] h (fun v H => Ext h H ∧ Own encI 3 h.length H v (numsN l m)) := by
  refine ret_raw func79 rfl (by kernel_rfl) ?_
  have hsp := @Nat.succ_ne_zero; repeat' (first | simp (disch := first | exact dschE10 | fail) only [go_sem, ↓reduceIte, hsp] | refine WP_drw ?_ | refine cnd_intro (fun hsp => ?_) fun hsp => ?_)
  refine WP_count [(5, 6), (8, 18)] 0 m (Nat.zero_le _) (fun H0 i fr h' => fr 8 = .int .i64 (i : Int) ∧ Ext H0 h' ∧ ∃ v, fr 5 = v ∧ Own encI 3 H0.length h' v (numsN l i)) ?_ ?_ ?_
  · exact ⟨by (simp (disch := first | exact dschE10 | fail) only [go_sem, ↓reduceIte, Int.natCast_zero]; first | done | rfl), .refl, .slice none 0 0, by simp (disch := first | exact dschE10 | fail) only [go_sem, ↓reduceIte], Own.nil⟩
  · rintro i fr H hi0 hi hA ⟨r8, xH, v, r5, hO⟩
    have p7 := hA 7 rfl; simp (disch := first | exact dschE10 | fail) only [go_sem, ↓reduceIte] at p7
    have p2 := hA 2 rfl; simp (disch := first | exact dschE10 | fail) only [go_sem, ↓reduceIte] at p2
    have hlt : ((i : Int) < (m : Int)) = True := eq_true (by omega)
    have hlen := xH.len
    have hg : H[h.length]? = some ⟨.cells (l.map .bool) 143 false false, 0⟩ := xH.get (by simp)
    have hv : ldB (some (false, 1)) H[h.length]? 0 i = some (.bool (l.getD i false)) := by
      rw [hg]
      have hi' : i < l.length := by omega
      show (l.map AVal.bool)[i]? = _
      rw [List.getElem?_map, List.getD_eq_getElem?_getD, List.getElem?_eq_getElem hi']
      rfl
    cases hb : l.getD i false with
    | true =>
      rw [hb] at hv
      have hul := numsN_len (l := l) (n := i)
      obtain ⟨v', h', ea, hO', hle, hE, h1'⟩ := hO.append1 (y := (i : Int)) (base := base) (t := 36) rfl rfl Fc.el36 encI_sc (by simp only [List.length_append, List.length_cons, List.length_nil]; omega) hlen (by omega)
      have hsp := @Nat.succ_ne_zero; repeat' (first | simp (disch := first | exact dschE10 | fail) only [go_sem, ↓reduceIte, hsp, r8, r5, p7, p2, hlt, hv, ea] | refine WP_drw ?_ | refine cnd_intro (fun hsp => ?_) fun hsp => ?_)
      refine ⟨by (repeat first | exact Agree.refl | assumption | refine Agree.put rfl ?_ | refine Agree.put0 ?_ | refine Agree.sub rfl (by assumption) ?_), by omega, hE _ (Nat.le_refl _) xH, v', rfl, ?_⟩
      rw [numsN_succ, hb]
      simpa only [if_true, List.length_append, List.length_cons, List.length_nil] using hO'
    | false =>
      rw [hb] at hv
      have hsp := @Nat.succ_ne_zero; repeat' (first | simp (disch := first | exact dschE10 | fail) only [go_sem, ↓reduceIte, hsp, r8, r5, p7, p2, hlt, hv] | refine WP_drw ?_ | refine cnd_intro (fun hsp => ?_) fun hsp => ?_)
      refine ⟨by (repeat first | exact Agree.refl | assumption | refine Agree.put rfl ?_ | refine Agree.put0 ?_ | refine Agree.sub rfl (by assumption) ?_), by omega, xH, v, rfl, ?_⟩
      rw [numsN_succ, hb]
      simpa using hO
  · rintro fr H hA ⟨r8, xH, v, r5, hO⟩
    have p7 := hA 7 rfl; simp (disch := first | exact dschE10 | fail) only [go_sem, ↓reduceIte] at p7
    have hlt : ((m : Int) < (m : Int)) = False := eq_false (by omega)
    have hsp := @Nat.succ_ne_zero; repeat' (first | simp (disch := first | exact dschE10 | fail) only [go_sem, ↓reduceIte, hsp, r8, r5, p7, hlt] | refine WP_drw ?_ | refine cnd_intro (fun hsp => ?_) fun hsp => ?_)
    exact ⟨Ext.trans (.app .refl) xH, hO.low (by simp only [List.length_append, List.length_cons, List.length_nil]; omega)⟩
end Go.AM
/-
  Plain: what the sights say of the parts: marks, and the sights that are bad.
-/
namespace Go.AM
/-- A block below is set in both heaps. -/
theorem Ext.set2 {G H : Heap} {i : Nat} {k : ABlk} (e : Ext G H) (hi : i < G.length) : Ext (G.set i k) (H.set i k) := by
  obtain ⟨t, rfl⟩ := e
  exact ⟨t, List.set_append_left _ _ hi⟩
theorem Ext.mid {h H : Heap} {a b b' c : ABlk} {n : Nat} (e : Ext (h ++ [a] ++ [b] ++ [c]) H) (hn : n = h.length + 1) : Ext (h ++ [a] ++ [b'] ++ [c]) (H.set n b') := by
  subst hn
  have q := e.set2 (i := h.length + 1) (k := b') (by simp)
  rw [List.set_append_left _ _ (by simp), List.set_append_right _ _ (by simp)] at q
  simpa using q
/-- The marks of one part after the throws a, .., a + n - 1 of a sight of ribbon r. -/
def mark1 (p : Prt) (r : Int) (a : Nat) (m : List Bool) : Nat → List Bool
  | 0 => m
  | n + 1 => if ((a + n : Nat) : Int).tmod p.each = p.ph ∧ r ∈ p.rib then (mark1 p r a m n).set (a + n) true else mark1 p r a m n
theorem mark1_pos {p : Prt} {r : Int} {a n : Nat} {m : List Bool} (h : ((a + n : Nat) : Int).tmod p.each = p.ph ∧ r ∈ p.rib) : mark1 p r a m (n + 1) = (mark1 p r a m n).set (a + n) true := by simp only [mark1]; rw [if_pos h]
theorem mark1_neg {p : Prt} {r : Int} {a n : Nat} {m : List Bool} (h : ¬ (((a + n : Nat) : Int).tmod p.each = p.ph ∧ r ∈ p.rib)) : mark1 p r a m (n + 1) = mark1 p r a m n := by simp only [mark1]; rw [if_neg h]
theorem mark1_len {p : Prt} {r : Int} {a : Nat} {m : List Bool} : ∀ n, (mark1 p r a m n).length = m.length
  | 0 => rfl
  | n + 1 => by simp only [mark1]; split <;> simp [mark1_len n]
/-- The marks of all parts after the first k parts have seen the sight. -/
def markN (ps : List Prt) (r : Int) (a n : Nat) (ms : List (List Bool)) : Nat → List (List Bool)
  | 0 => ms
  | k + 1 => match ps[k]? with
    | some p => (markN ps r a n ms k).set k (mark1 p r a ((markN ps r a n ms k).getD k []) n)
    | none => markN ps r a n ms k
theorem markN_len {ps : List Prt} {r : Int} {a n : Nat} {ms : List (List Bool)} : ∀ k, (markN ps r a n ms k).length = ms.length
  | 0 => rfl
  | k + 1 => by simp only [markN]; split <;> simp [markN_len k]
/-- Every part's marks stay twelve. -/
theorem markN_all {ps : List Prt} {r : Int} {a n w : Nat} {ms : List (List Bool)} (hl : ps.length = ms.length) (h : ∀ m ∈ ms, m.length = w) : ∀ k, ∀ m ∈ markN ps r a n ms k, m.length = w
  | 0 => h
  | k + 1 => by
    have ih := markN_all (r := r) (a := a) (n := n) hl h k
    simp only [markN]
    split
    · rename_i p hp
      have hk := (List.getElem?_eq_some_iff.1 hp).1
      intro m hm
      rcases List.mem_or_eq_of_mem_set hm with q | q
      · exact ih m q
      · rw [q, mark1_len]
        have h2 : k < (markN ps r a n ms k).length := by rw [markN_len]; omega
        rw [List.getD_eq_getElem?_getD, List.getElem?_eq_getElem h2]
        exact ih _ (List.getElem_mem h2)
    · exact ih
/-- The desk after one sight, and after the first k of a list: the bad ones, the marks. -/
def deskS (L : Lom) (d : List Int × List (List Bool)) (i : Int) : List Int × List (List Bool) :=
  match L.ss[i.toNat]? with
  | some s => if s.bad = true then (d.1 ++ [i], d.2) else (d.1, markN L.ps s.rib s.lo.toNat (s.hi + 1 - s.lo).toNat d.2 L.ps.length)
  | none => d
def deskN (L : Lom) (o : List Int) : List Int × List (List Bool) := o.foldl (deskS L) ([], List.replicate L.ps.length (List.replicate 12 false))
theorem deskN_succ {L : Lom} {o : List Int} {k : Nat} (hk : k < o.length) : deskN L (o.take (k + 1)) = deskS L (deskN L (o.take k)) (o.getD k 0) := by
  unfold deskN
  rw [List.take_add_one, List.getElem?_eq_getElem hk, List.foldl_append, List.getD_eq_getElem?_getD, List.getElem?_eq_getElem hk]
  rfl
theorem deskN_len {L : Lom} (o : List Int) : (deskN L o).2.length = L.ps.length ∧ (∀ m ∈ (deskN L o).2, m.length = 12) ∧ (deskN L o).1.length ≤ o.length := by
  suffices g : ∀ (o : List Int) (d : List Int × List (List Bool)), d.2.length = L.ps.length → (∀ m ∈ d.2, m.length = 12) → (o.foldl (deskS L) d).2.length = L.ps.length ∧ (∀ m ∈ (o.foldl (deskS L) d).2, m.length = 12) ∧ (o.foldl (deskS L) d).1.length ≤ d.1.length + o.length by
    have := g o ([], List.replicate L.ps.length (List.replicate 12 false)) (by simp) (fun m hm => by rw [(List.mem_replicate.1 hm).2]; simp)
    simpa [deskN] using this
  intro o
  induction o with
  | nil => intro d h1 h2; exact ⟨h1, h2, by simp⟩
  | cons i o ih =>
    intro d h1 h2
    have g : (deskS L d i).2.length = L.ps.length ∧ (∀ m ∈ (deskS L d i).2, m.length = 12) ∧ (deskS L d i).1.length ≤ d.1.length + 1 := by
      unfold deskS
      split
      · split
        · exact ⟨h1, h2, by simp⟩
        · exact ⟨by rw [markN_len]; exact h1, markN_all h1.symm h2 _, by simp⟩
      · exact ⟨h1, h2, by simp⟩
    obtain ⟨a, b, c⟩ := ih _ g.1 g.2.1
    refine ⟨a, b, ?_⟩
    simp only [List.foldl_cons, List.length_cons]
    have := g.2.2
    omega
end Go.AM
