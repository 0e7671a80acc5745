/-
  Contracts: sets of sights by bits, the first one of two lists; where breaks last, and which parts must break, as the reference says it.
-/
import Derived.Test.YtlhmeoeamcgcmaaGreatE67
import Derived.Test.YtlhmeoeamcgcmaaGreatW7
import Derived.Test.YtlhmeoeamcgcmaaGreatK7
set_option linter.unusedSimpArgs false
set_option linter.unusedVariables false
namespace Go.AM
open Go.Proofs.Tryz
theorem dschE69 {p : Prop} (h : p := by first | exact Nat.ne_of_beq_eq_false rfl | assumption | (apply asOne; (first | exact One.int | exact One.bool | assumption | exact Ints.one (by assumption) | exact Rows.one (by assumption) | exact Own.one (by assumption) | exact One.lit ⟨rfl, rfl, rfl⟩)) | (apply asInts; (repeat first | assumption | exact ints_nil | apply Ints.app); done) | (apply asRows; (repeat first | assumption | exact Rows.nil | apply Rows.app); done) | (apply asScal; (first | apply allS1 | apply allS2 | apply allS3 | apply allS4) <;> (first | exact One.int | exact One.bool | assumption | exact Ints.one (by assumption) | exact Rows.one (by assumption) | exact Own.one (by assumption) | exact One.lit ⟨rfl, rfl, rfl⟩)) | exact litT rfl | exact litF rfl | omega | (simp only [List.length_append, List.length_cons, List.length_nil, List.length_set, List.length_reverse]; first | done | omega) | fail) : p := h
attribute [-go_sem] put_ne put_same
attribute [local go_sem ↓] put_if
set_option maxHeartbeats 1000000 in
theorem run_sets {base : Nat} {h : Heap} {L : Lom} {pv sv : AVal} (hP : One pv) (hS : Rows encS h sv L.ss) (hl : L.ss.length ≤ 60) :
    callL prog raw base (.fn 69 [] []) [lomV L.R L.T pv sv] h = some (.int .i64 ((2 ^ L.ss.length : Nat) : Int), h) := by
  have ho2 := hS.one
  obtain ⟨G, eG⟩ : ∃ G, G = h ++ [rlB L.R L.T pv sv] := ⟨_, rfl⟩
  have xG : Ext h G := by rw [eG]; exact .app .refl
  have g1 : G[h.length]? = some (rlB L.R L.T pv sv) := by rw [eG]; exact get_eq rfl
  have l4 : lenOpA prog G 30 sv = some (.int .i64 (L.ss.length : Int)) := (hS.ext xG).len Fc.el30
  unfold rlB at eG g1
  refine callL_run func69 rfl rfl ?_
  have hsp := @Nat.succ_ne_zero; repeat' (first | simp (disch := first | exact dschE69 | fail) only [go_sem, ↓reduceIte, hsp, ← eG] | refine WP_drw ?_ | refine cnd_intro (fun hsp => ?_) fun hsp => ?_)
  refine WP_count [(3, 13)] 0 L.ss.length (Nat.zero_le _) (fun _ i fr h' => fr 4 = .int .i64 (i : Int) ∧ h' = G ∧ fr 3 = .int .i64 ((2 ^ i : Nat) : Int)) ?_ ?_ ?_
  · exact ⟨by (simp (disch := first | exact dschE69 | fail) only [go_sem, ↓reduceIte, Int.natCast_zero]; first | done | rfl), rfl, by simp (disch := first | exact dschE69 | fail) only [go_sem, ↓reduceIte]; rfl⟩
  · rintro i fr H hi0 hi hA ⟨r4, eH, r3⟩
    subst eH
    have p1 := hA 1 rfl
    have p2 := hA 2 rfl
    try simp (disch := first | exact dschE69 | fail) only [go_sem, ↓reduceIte] at p1 p2
    have hlt : ((i : Int) < (L.ss.length : Int)) = True := eq_true (by omega)
    have hp : (2 : Nat) ^ (i + 1) ≤ 2 ^ 60 := Nat.pow_le_pow_right (by decide) (by omega)
    have hp2 : (2 : Nat) ^ (i + 1) = 2 * 2 ^ i := by rw [Nat.pow_succ]; omega
    have ml : binA prog .mul 3 (.int .i64 2) (.int .i64 ((2 ^ i : Nat) : Int)) = some (.int .i64 ((2 ^ (i + 1) : Nat) : Int)) := by
      rw [bin_mul, wrap64 (by omega) (by omega), hp2]
      push_cast
      rfl
    have hsp := @Nat.succ_ne_zero; repeat' (first | simp (disch := first | exact dschE69 | fail) only [go_sem, ↓reduceIte, hsp, r4, r3, p1, p2, hlt, g1, l4, ml] | refine WP_drw ?_ | refine cnd_intro (fun hsp => ?_) fun hsp => ?_)
    exact ⟨by (repeat first | exact Agree.refl | assumption | refine Agree.put rfl ?_ | refine Agree.put0 ?_ | refine Agree.sub rfl (by assumption) ?_), by omega⟩
  · rintro fr H hA ⟨r4, eH, r3⟩
    subst eH
    have p1 := hA 1 rfl
    have p2 := hA 2 rfl
    try simp (disch := first | exact dschE69 | fail) only [go_sem, ↓reduceIte] at p1 p2
    have hlt : ((L.ss.length : Int) < (L.ss.length : Int)) = False := eq_false (by omega)
    have hsp := @Nat.succ_ne_zero; repeat' (first | simp (disch := first | exact dschE69 | fail) only [go_sem, ↓reduceIte, hsp, r4, r3, p1, p2, hlt, g1, l4] | refine WP_drw ?_ | refine cnd_intro (fun hsp => ?_) fun hsp => ?_)
    exact fI rfl xG
set_option maxHeartbeats 1000000 in
theorem run_first {base : Nat} {h : Heap} {av bv : AVal} {a b : List Int} (hA0 : Ints h av a) (hB0 : Ints h bv b) (hl : a.length ≤ b.length) (hl2 : b.length ≤ 1000) :
    callL prog raw base (.fn 71 [] []) [av, bv] h = some (.bool (lexB a b), h) := by
  have o1 := hA0.one
  have o2 := hB0.one
  refine callL_run func71 rfl rfl ?_
  have hsp := @Nat.succ_ne_zero; repeat' (first | simp (disch := first | exact dschE69 | fail) only [go_sem, ↓reduceIte, hsp] | refine WP_drw ?_ | refine cnd_intro (fun hsp => ?_) fun hsp => ?_)
  refine WP_count [(4, 29)] 0 a.length (Nat.zero_le _) (fun H0 i fr h' => fr 5 = .int .i64 (i : Int) ∧ h' = H0 ∧ lexB a b = lexB (a.drop i) (b.drop i)) ?_ ?_ ?_
  · exact ⟨by (simp (disch := first | exact dschE69 | fail) only [go_sem, ↓reduceIte, Int.natCast_zero]; first | done | rfl), rfl, rfl⟩
  · rintro i fr H hi0 hi hA ⟨r5, eH, hx⟩
    subst eH
    have p0 := hA 0 rfl
    have p1 := hA 1 rfl
    try simp (disch := first | exact dschE69 | fail) only [go_sem, ↓reduceIte] at p0 p1
    have hlt : ((i : Int) < (a.length : Int)) = True := eq_true (by omega)
    have hlb : i < b.length := by omega
    have da : a.drop i = a.getD i 0 :: a.drop (i + 1) := by rw [List.drop_eq_getElem_cons hi, getD_at hi]
    have db : b.drop i = b.getD i 0 :: b.drop (i + 1) := by rw [List.drop_eq_getElem_cons hlb, getD_at hlb]
    rw [da, db] at hx
    simp only [lexB] at hx
    by_cases c1 : a.getD i 0 = b.getD i 0
    · have t1 : (a.getD i 0 = b.getD i 0) = True := eq_true c1
      rw [if_pos c1] at hx
      have hsp := @Nat.succ_ne_zero; repeat' (first | simp (disch := first | exact dschE69 | fail) only [go_sem, ↓reduceIte, hsp, r5, p0, p1, hlt, t1, not_true, decide_false] | refine WP_drw ?_ | refine cnd_intro (fun hsp => ?_) fun hsp => ?_)
      exact ⟨by (repeat first | exact Agree.refl | assumption | refine Agree.put rfl ?_ | refine Agree.put0 ?_ | refine Agree.sub rfl (by assumption) ?_), by omega, hx⟩
    · have t1 : (a.getD i 0 = b.getD i 0) = False := eq_false c1
      rw [if_neg c1] at hx
      rw [hx]
      have hsp := @Nat.succ_ne_zero; repeat' (first | simp (disch := first | exact dschE69 | fail) only [go_sem, ↓reduceIte, hsp, r5, p0, p1, hlt, t1, not_false_iff, decide_true] | refine WP_drw ?_ | refine cnd_intro (fun hsp => ?_) fun hsp => ?_)
      exact fB rfl
  · rintro fr H hA ⟨r5, eH, hx⟩
    subst eH
    have p0 := hA 0 rfl
    have p1 := hA 1 rfl
    try simp (disch := first | exact dschE69 | fail) only [go_sem, ↓reduceIte] at p0 p1
    have hlt : ((a.length : Int) < (a.length : Int)) = False := eq_false (by omega)
    rw [List.drop_length] at hx
    simp only [lexB] at hx
    rw [hx]
    have hsp := @Nat.succ_ne_zero; repeat' (first | simp (disch := first | exact dschE69 | fail) only [go_sem, ↓reduceIte, hsp, r5, p0, p1, hlt] | refine WP_drw ?_ | refine cnd_intro (fun hsp => ?_) fun hsp => ?_)
    exact fB rfl
theorem bits_of (s : Nat) : ∃ k, s / 2 ^ k = 0 ∧ (∀ j, j < k → s / 2 ^ j ≠ 0) ∧ ∀ n, s < 2 ^ n → k ≤ n := by
  have key : ∀ n, s / 2 ^ n = 0 → ∃ k, s / 2 ^ k = 0 ∧ (∀ j, j < k → s / 2 ^ j ≠ 0) := by
    intro n
    induction n with
    | zero => exact fun h => ⟨0, h, fun j hj => by omega⟩
    | succ n ih =>
      intro h
      by_cases q : s / 2 ^ n = 0
      · exact ih q
      · refine ⟨n + 1, h, fun j hj e => q ?_⟩
        have h1 : s < 2 ^ j := by
          rcases Nat.div_eq_zero_iff.1 e with e | e
          · exact absurd e (Nat.pos_iff_ne_zero.1 (Nat.pow_pos (by decide)))
          · exact e
        exact Nat.div_eq_of_lt (Nat.lt_of_lt_of_le h1 (Nat.pow_le_pow_right (by decide) (by omega)))
  obtain ⟨k, h1, h2⟩ := key s (Nat.div_eq_of_lt Nat.lt_two_pow_self)
  refine ⟨k, h1, h2, fun n hn => Nat.le_of_not_lt fun q => h2 n q (Nat.div_eq_of_lt hn)⟩
set_option maxHeartbeats 1000000 in
theorem run_members {base n s : Nat} {h : Heap} (hb : base ≤ h.length) (hs : s < 2 ^ n) (hn : n ≤ 60) :
    Ret prog raw base (.fn 70 [] []) [.int .i64 (s : Int)] h (fun v H => Ext h H ∧ Own encI 3 h.length H v (memS n s)) := by
  obtain ⟨k, k1, k2, k3⟩ := bits_of s
  have hk := k3 n hs
  have e0 : memS n s = memS k s := by
    have hsk : s < 2 ^ k := by
      rcases Nat.div_eq_zero_iff.1 k1 with e | e
      · exact absurd e (Nat.pos_iff_ne_zero.1 (Nat.pow_pos (by decide)))
      · exact e
    obtain ⟨d, rfl⟩ : ∃ d, n = k + d := ⟨n - k, by omega⟩
    exact memS_more hsk
  rw [e0]
  have hsb : s < 2 ^ 60 := Nat.lt_of_lt_of_le hs (Nat.pow_le_pow_right (by decide) hn)
  refine ret_raw func70 rfl (by kernel_rfl) ?_
  have hsp := @Nat.succ_ne_zero; repeat' (first | simp (disch := first | exact dschE69 | fail) only [go_sem, ↓reduceIte, hsp] | refine WP_drw ?_ | refine cnd_intro (fun hsp => ?_) fun hsp => ?_)
  refine WP_count [(0, 0), (3, 17)] 0 k (Nat.zero_le _) (fun _ i fr h' => fr 0 = .int .i64 ((s / 2 ^ i : Nat) : Int) ∧ Ext h h' ∧ fr 4 = .int .i64 (i : Int) ∧ ∃ v, fr 3 = v ∧ Own encI 3 h.length h' v (memS i s)) ?_ ?_ ?_
  · exact ⟨by simp (disch := first | exact dschE69 | fail) only [go_sem, ↓reduceIte]; simp, .refl, by (simp (disch := first | exact dschE69 | fail) only [go_sem, ↓reduceIte, Int.natCast_zero]; first | done | rfl), .slice none 0 0, by simp (disch := first | exact dschE69 | fail) only [go_sem, ↓reduceIte], Own.nil⟩
  · rintro i fr K hi0 hi hA ⟨r0, xK, r4, v, r3, hO⟩
    have hx2 : s / 2 ^ (i + 1) = s / 2 ^ i / 2 := by rw [Nat.div_div_eq_div_mul, Nat.pow_succ]
    have hxs : s / 2 ^ i ≤ s := Nat.div_le_self _ _
    have hx0 := k2 i hi
    have htb : s.testBit i = decide (s / 2 ^ i % 2 = 1) := Nat.testBit_eq_decide_div_mod_eq
    rw [hx2]
    obtain ⟨x, ex⟩ : ∃ x, x = s / 2 ^ i := ⟨_, rfl⟩
    rw [← ex] at r0 hxs hx0 htb ⊢
    have hlt : ((x : Int) > 0) = True := eq_true (by omega)
    have qd : binA prog .quo 3 (.int .i64 (x : Int)) (.int .i64 2) = some (.int .i64 ((x / 2 : Nat) : Int)) := by
      rw [bin_quo (by decide), Int.tdiv_eq_ediv_of_nonneg (by omega), wrap64 (by omega) (by omega)]
      rfl
    have hrem : (x : Int).tmod 2 = ((x % 2 : Nat) : Int) := by rw [Int.tmod_eq_emod_of_nonneg (by omega)]; rfl
    have hKl := xK.len
    have hml := memS_len (n := i) (s := s)
    by_cases c1 : x % 2 = 1
    · have t1 : (((x % 2 : Nat) : Int) = 1) = True := eq_true (by omega)
      obtain ⟨v', h', ea, hO', hle, hE, h1'⟩ := hO.append1 (y := (i : Int)) (base := base) (t := 36) rfl rfl Fc.el36 encI_sc (by omega) hKl (by omega)
      have hsp := @Nat.succ_ne_zero; repeat' (first | simp (disch := first | exact dschE69 | fail) only [go_sem, ↓reduceIte, hsp, r0, r4, r3, hlt, hrem, t1, qd, ea] | refine WP_drw ?_ | refine cnd_intro (fun hsp => ?_) fun hsp => ?_)
      refine ⟨by (repeat first | exact Agree.refl | assumption | refine Agree.put rfl ?_ | refine Agree.put0 ?_ | refine Agree.sub rfl (by assumption) ?_), hE _ (Nat.le_refl _) xK, by omega, v', rfl, ?_⟩
      rw [memS_succ, if_pos (by rw [htb, decide_eq_true c1])]
      exact hO'
    · have t1 : (((x % 2 : Nat) : Int) = 1) = False := eq_false (by omega)
      have hsp := @Nat.succ_ne_zero; repeat' (first | simp (disch := first | exact dschE69 | fail) only [go_sem, ↓reduceIte, hsp, r0, r4, r3, hlt, hrem, t1, qd] | refine WP_drw ?_ | refine cnd_intro (fun hsp => ?_) fun hsp => ?_)
      refine ⟨by (repeat first | exact Agree.refl | assumption | refine Agree.put rfl ?_ | refine Agree.put0 ?_ | refine Agree.sub rfl (by assumption) ?_), xK, by omega, v, rfl, ?_⟩
      rw [memS_succ, if_neg (by rw [htb, decide_eq_false c1]; decide), List.append_nil]
      exact hO
  · rintro fr K hA ⟨r0, xK, r4, v, r3, hO⟩
    rw [k1] at r0
    have hlt : ((0 : Int) > 0) = False := eq_false (by omega)
    have hsp := @Nat.succ_ne_zero; repeat' (first | simp (disch := first | exact dschE69 | fail) only [go_sem, ↓reduceIte, hsp, r0, r4, r3, hlt] | refine WP_drw ?_ | refine cnd_intro (fun hsp => ?_) fun hsp => ?_)
    exact ⟨xK, hO⟩
/-! ### Lasts -/
/-! ### Lasting -/
def canR (ts : List (List Brk)) (k : Int) (n : Nat) : List Int := (upto n).filter fun x => ts.any fun t => lstB t k x
def sryR (ts : List (List Brk)) (k : Int) (n : Nat) : List Int := (upto n).filter fun x => ts.all fun t => lstB t k x
end Go.AM
