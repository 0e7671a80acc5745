/-
  Contracts: the plan with the fewest cards.
-/
import Derived.Test.YtppkmjfplhenmaaD7
set_option linter.unusedSimpArgs false
set_option linter.unusedVariables false
namespace Go.AM
open Go.Proofs.Try
theorem dschD8 {p : Prop} (h : p := by first | exact Nat.ne_of_beq_eq_false rfl | assumption | (apply asOne; (first | exact One.int | exact One.bool | exact newV_one | exact grV_one | exact cloneV_one | exact takF_one | assumption | exact Ints.one (by assumption) | exact One.lit ⟨rfl, rfl, rfl⟩)) | (apply asInts; (repeat first | assumption | (apply newV_ints' <;> first | assumption | (first | rfl | (simp only [List.length_append, List.length_cons, List.length_nil, List.length_set]; done) | (simp only [List.length_append, List.length_cons, List.length_nil, List.length_set]; omega))) | (apply grV_ints <;> first | assumption | (first | rfl | (simp only [List.length_append, List.length_cons, List.length_nil, List.length_set]; done) | (simp only [List.length_append, List.length_cons, List.length_nil, List.length_set]; omega))) | apply Ints.app); done) | (apply asTak; (repeat first | assumption | (refine TakAt.new ?_; (first | rfl | (simp only [List.length_append, List.length_cons, List.length_nil, List.length_set]; done) | (simp only [List.length_append, List.length_cons, List.length_nil, List.length_set]; omega))) | apply TakAt.app); done) | (apply asScal; (first | apply allS1 | apply allS2 | apply allS3 | apply allS4) <;> (first | exact One.int | exact One.bool | exact newV_one | exact grV_one | exact cloneV_one | exact takF_one | assumption | exact Ints.one (by assumption) | exact One.lit ⟨rfl, rfl, rfl⟩)) | exact litT rfl | exact litF rfl | omega | (simp only [List.length_append, List.length_cons, List.length_nil, lst_len, List.length_set, ints_length, List.length_reverse]; first | done | omega) | fail) : p := h

/-- Does the j-th plan with n cards stand? -/
def okP (w : Nat) (l : List Int) (n j : Nat) : Bool := !(firstS w l (planK j).toNat n (planT j).toNat).2.2
def fewJ (w : Nat) (l : List Int) (n : Nat) : Option Nat := findI (okP w l n) (w + 1)
def fewN (w : Nat) (l : List Int) : Option Nat := findI (fun m => (fewJ w l (m + 1)).isSome) l.length
/-- card.desk.fewest: kind, cards, step. -/
def fewestS (w : Nat) (l : List Int) : Int × Int × Int :=
  match fewN w l with
  | some m => match fewJ w l (m + 1) with | some j => (planK j, (m : Int) + 1, planT j) | none => (0, l.length, 0)
  | none => (0, l.length, 0)

theorem planK_bd {j : Nat} : 0 ≤ planK j ∧ planK j ≤ 2 := by
  unfold planK; split
  · omega
  · split <;> omega
theorem planT_bd {j : Nat} (h : j ≤ 9) : 0 ≤ planT j ∧ planT j ≤ 1000 := by
  unfold planT; split <;> omega

/-- With as many cards as throws the first plan stands. -/
theorem okP_all {w : Int} {l : List Int} (hc : chk w l = 0) : okP w.toNat l l.length 0 = true := by
  obtain ⟨hw, hp, hx⟩ := chk_ok hc
  have : firstS w.toNat l (planK 0).toNat l.length (planT 0).toNat = (0, 0, false) := by
    unfold firstS
    rw [findI_none fun i hi => off_small hi (hx _ (getD_mem hi))]
  unfold okP
  rw [this]
  rfl
theorem fewN_some {w : Int} {l : List Int} (hc : chk w l = 0) : ∃ m j, fewN w.toNat l = some m ∧ fewJ w.toNat l (m + 1) = some j := by
  obtain ⟨hw, hp, hx⟩ := chk_ok hc
  cases h : fewN w.toNat l with
  | some m =>
    have h1 := (findI_is h).2.1
    cases h2 : fewJ w.toNat l (m + 1) with
    | some j => exact ⟨m, j, rfl, h2⟩
    | none => rw [h2] at h1; cases h1
  | none =>
    have h1 := findI_not h (l.length - 1) (by omega)
    rw [show l.length - 1 + 1 = l.length by omega] at h1
    cases h2 : fewJ w.toNat l l.length with
    | some j => rw [h2] at h1; cases h1
    | none =>
      have := findI_not h2 0 (by omega)
      rw [okP_all hc] at this
      cases this

def z3 : List AVal := [.int .i64 0, .int .i64 0, .int .i64 0]
/-- What fewest has in memory. -/
def FB (h H : Heap) (w : Int) (v : AVal) (out : List AVal) : Prop := Ext h H ∧ H[h.length]? = some ⟨.cells [.int .i64 w, v] 126 false false, 0⟩ ∧ H[h.length + 1]? = some ⟨.cells z3 124 false false, 0⟩ ∧
  H[h.length + 2]? = some ⟨.cells z3 124 false false, 0⟩ ∧ H[h.length + 3]? = some ⟨.cells out 124 false false, 0⟩
theorem FB.app {h H T : Heap} {w : Int} {v : AVal} {out : List AVal} (f : FB h H w v out) : FB h (H ++ T) w v out :=
  ⟨f.1.app, get_app f.2.1, get_app f.2.2.1, get_app f.2.2.2.1, get_app f.2.2.2.2⟩
theorem FB.set {h H : Heap} {w : Int} {v : AVal} {out : List AVal} {i : Nat} {b : ABlk} (f : FB h H w v out) (hi : h.length + 4 ≤ i) : FB h (H.set i b) w v out := by
  refine ⟨f.1.set (by omega), ?_, ?_, ?_, ?_⟩
  · rw [get_set f.2.1, if_neg (by omega)]
  · rw [get_set f.2.2.1, if_neg (by omega)]
  · rw [get_set f.2.2.2.1, if_neg (by omega)]
  · rw [get_set f.2.2.2.2, if_neg (by omega)]
theorem FB.out {h H : Heap} {w : Int} {v : AVal} {out out' : List AVal} (f : FB h H w v out) : FB h (H.set (h.length + 3) ⟨.cells out' 124 false false, 0⟩) w v out' := by
  refine ⟨f.1.set (by omega), ?_, ?_, ?_, ?_⟩
  · rw [get_set f.2.1, if_neg (by omega)]
  · rw [get_set f.2.2.1, if_neg (by omega)]
  · rw [get_set f.2.2.2.1, if_neg (by omega)]
  · rw [get_set f.2.2.2.2, if_pos rfl]
theorem FB.len {h H : Heap} {w : Int} {v : AVal} {out : List AVal} (f : FB h H w v out) : h.length + 4 ≤ H.length := lt_of_get f.2.2.2.2

theorem run85 {base : Nat} {h : Heap} {v : AVal} {l : List Int} {w : Int} (hI : Ints h v l) (hc : chk w l = 0) :
    callL prog raw base (.fn 85 [] []) [pap w v] h = some (pln (fewestS w.toNat l).1 (fewestS w.toNat l).2.1 (fewestS w.toNat l).2.2, h) := by
  obtain ⟨hw, hp, hx⟩ := chk_ok hc
  refine callL_run func85 rfl rfl ?_
  have hsp := @Nat.succ_ne_zero; repeat' (first | simp (disch := first | exact dschD8 | fail) only [go_sem, hsp, pap] | refine WP_drw ?_ | refine cnd_intro (fun hsp => ?_) fun hsp => ?_)
  refine WP_loop (fun σ => ∃ i : Nat, i ≤ l.length ∧ σ.fr 16 = .int .i64 (i : Int) ∧ σ.fr 15 = .int .i64 l.length ∧ σ.fr 1 = .ptr (some ⟨h.length, 0, 0⟩) ∧ σ.fr 2 = .ptr (some ⟨h.length + 1, 0, 0⟩) ∧ σ.fr 3 = .ptr (some ⟨h.length + 2, 0, 0⟩) ∧ σ.fr 4 = .ptr (some ⟨h.length + 3, 0, 0⟩) ∧
    FB h σ.h w v z3 ∧ ∀ j, j < i → (fewJ w.toNat l (j + 1)).isSome = false) (fun σ => match σ.fr 16 with | .int _ x => (l.length - x).toNat | _ => 0) ?_ ?_
  · refine ⟨0, by omega, by simp (disch := first | exact dschD8 | fail) only [go_sem, Int.natCast_zero], by simp (disch := first | exact dschD8 | fail) only [go_sem], by simp (disch := first | exact dschD8 | fail) only [go_sem], by simp (disch := first | exact dschD8 | fail) only [go_sem], by simp (disch := first | exact dschD8 | fail) only [go_sem], by simp (disch := first | exact dschD8 | fail) only [go_sem], ?_, fun j hj => by omega⟩
    dsimp only
    refine ⟨.app (.app (.app (.app .refl))), by simp (disch := first | exact dschD8 | fail) only [go_sem], by simp (disch := first | exact dschD8 | fail) only [go_sem, z3], ?_, ?_⟩
    · rw [get_lt (by simp), get_eq (by simp)]; rfl
    · rw [get_eq (by simp)]; rfl
  · rintro ⟨fr, H⟩ ⟨i, hi, r16, r15, r1, r2, r3, r4, hf, hno⟩
    dsimp only at r16 r15 r1 r2 r3 r4 hf
    have hf0 := hf
    obtain ⟨hE, g0, g1, g2, g3⟩ := hf
    have hI' := hI.ext hE
    by_cases hil : i < l.length
    · have hil' : ((i : Int) < l.length) = True := eq_true (by omega)
      have hsp := @Nat.succ_ne_zero; repeat' (first | simp (disch := first | exact dschD8 | fail) only [go_sem, hsp, r16, r15, r1, r2, r3, r4, g0, hil'] | refine WP_drw ?_ | refine cnd_intro (fun hsp => ?_) fun hsp => ?_)
      refine WP_range (f := 118) (a := []) (c := [.ptr (some ⟨H.length, 0, 0⟩), .ptr (some ⟨H.length + 1, 0, 0⟩)]) (by simp (disch := first | exact dschD8 | fail) only [go_sem]) (N := w.toNat + 1) (xs := fun j => [pln (planK j) ((i : Int) + 1) (planT j)])
        (fun j H2 => FB h H2 w v z3 ∧ H2[H.length]? = some (intB ((i : Int) + 1)) ∧ H2[H.length + 1]? = some ⟨.cells [.int .i64 w, v] 126 false false, 0⟩ ∧ ∀ t, t < j → okP w.toNat l (i + 1) t = false)
        (fun e H2 => e = .exit 0 ∧ ∃ j, fewJ w.toNat l (i + 1) = some j ∧ FB h H2 w v [.int .i64 (planK j), .int .i64 ((i : Int) + 1), .int .i64 (planT j)])
        (yields118 hw (fun j H2 hh => ⟨hh.2.1, hh.2.2.1⟩)) (fun j => rfl) (fun j H2 T hh => ⟨hh.1.app, get_app hh.2.1, get_app hh.2.2.1, hh.2.2.2⟩) ?_ ?_ ?_ ?_ ?_ ?_
      · intro j H2 b hh
        have hl := hf0.len
        refine ⟨hh.1.set (by simp; omega), ?_, ?_, hh.2.2.2⟩
        · rw [get_set hh.2.1, if_neg (by simp)]
        · rw [get_set hh.2.2.1, if_neg (by simp)]
      · rintro e H2 b ⟨he, j, h1, h2⟩
        have hl := hf0.len
        exact ⟨he, j, h1, h2.set (by simp; omega)⟩
      · refine ⟨hf0.app.app, get_app (by simp), get_app (by simp), fun t ht => by omega⟩
      · rintro j H2 B1 B2 hj ⟨hf2, hc2, hd2, hno2⟩ hlen2 hl2
        have hl := hf0.len
        have hL : (H ++ [intB ((i : Int) + 1), ⟨.cells [.int .i64 w, v] 126 false false, 0⟩]).length = H.length + 2 := by simp
        rw [hL] at hlen2 hl2 ⊢
        have hI2 := hI.ext hf2.1
        have hf3 := (hf2.set (i := H.length + 2) (b := B2) (by omega)).app (T := [⟨.cells [.int .i64 (planK j), .int .i64 ((i : Int) + 1), .int .i64 (planT j)] 124 false false, 0⟩])
        have hI3 : Ints (H2.set (H.length + 2) B2 ++ [⟨.cells [.int .i64 (planK j), .int .i64 ((i : Int) + 1), .int .i64 (planT j)] 124 false false, 0⟩]) v l := hI.ext hf3.1
        obtain ⟨-, k0, k1, k2, k3⟩ := hf3
        have kb := planK_bd (j := j)
        have tb := planT_bd (j := j) (by omega)
        have hsp := @Nat.succ_ne_zero; repeat' (first | simp (disch := first | exact dschD8 | fail) only [go_sem, hsp, r1, r2, r3, r4, pln, k0, k3] | refine WP_drw ?_ | refine cnd_intro (fun hsp => ?_) fun hsp => ?_)
        refine ⟨hl2, ?_⟩
        have hlt := lt_of_get hl2
        have hsp := @Nat.succ_ne_zero; repeat' (first | simp (disch := first | exact dschD8 | fail) only [go_sem, hsp, r1, r2, r3, r4, pln, k0, k3, z3] | refine WP_drw ?_ | refine cnd_intro (fun hsp => ?_) fun hsp => ?_)
        all_goals rw [show ((i : Int) + 1).toNat = i + 1 by omega] at *
        · refine ⟨fun q x hq hx => ?_, .inr ⟨(fun hh => by cases hh), j, ?_, ?_⟩⟩
          · rw [get_app]
            rw [get_set_ne (by omega), get_set_ne (by omega)]
            exact hx
          · exact findI_some hj (by unfold okP; rw [hsp]; rfl) hno2
          · exact (hf2.set (i := H.length + 2) (b := B2) (by omega)).out.app
        · refine ⟨fun q x hq hx => ?_, .inl ⟨(hf2.set (i := H.length + 2) (b := B2) (by omega)).app, hc2, hd2, fun t ht => ?_⟩⟩
          · rw [get_app]
            rw [get_set_ne (by omega)]
            exact hx
          · by_cases e : t = j
            · subst e
              unfold okP
              simpa using hsp
            · exact hno2 t (by omega)
      · rintro H2 ⟨hf2, hc2, hd2, hno2⟩
        have hsp := @Nat.succ_ne_zero; repeat' (first | simp (disch := first | exact dschD8 | fail) only [go_sem, hsp, r16, r15, r1, r2, r3, r4] | refine WP_drw ?_ | refine cnd_intro (fun hsp => ?_) fun hsp => ?_)
        refine ⟨⟨i + 1, by omega, by simp, hf2, fun j hj => ?_⟩, by omega⟩
        by_cases e : j = i
        · subst e
          unfold fewJ
          rw [findI_none fun t ht => hno2 t ht]
          rfl
        · exact hno j (by omega)
      · rintro e H2 he ⟨rfl, j, h1, h2⟩
        obtain ⟨hE2, k0, k1, k2, k3⟩ := h2
        have hz : (planK j = 0 ∧ (i : Int) + 1 = 0 ∧ planT j = 0) = False := eq_false (by omega)
        have hlt := lt_of_get k1
        have hsp := @Nat.succ_ne_zero; repeat' (first | simp (disch := first | exact dschD8 | fail) only [go_sem, hsp, r1, r2, r3, r4, k1, k2, k3, z3, hz] | refine WP_drw ?_ | refine cnd_intro (fun hsp => ?_) fun hsp => ?_)
        have hfs : fewestS w.toNat l = (planK j, (i : Int) + 1, planT j) := by
          unfold fewestS fewN
          rw [findI_some (t := i) hil (by rw [h1]; rfl) (fun m hm => hno m hm)]
          simp only [h1]
        rw [hfs]
        exact fin_pl rfl rfl (hE2.set (by omega))
    · exfalso
      obtain ⟨m, j, h1, h2⟩ := fewN_some hc
      have := (findI_is h1).1
      have h3 := hno m (by omega)
      rw [h2] at h3
      cases h3
attribute [go_sem] run85
end Go.AM
