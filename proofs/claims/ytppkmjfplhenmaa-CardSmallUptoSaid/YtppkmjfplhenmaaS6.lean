/-
  Contracts: a pattern out of a spool.
-/
import Derived.Test.YtppkmjfplhenmaaS5
import Derived.Test.YtppkmjfplhenmaaA7
import Derived.Test.YtppkmjfplhenmaaL0
set_option linter.unusedSimpArgs false
set_option linter.unusedVariables false
namespace Go.AM
open Go.Proofs.Try
theorem dschS6 {p : Prop} (h : p := by first | exact Nat.ne_of_beq_eq_false rfl | assumption | (apply asOne; (first | exact One.int | exact One.bool | exact newV_one | exact grV_one | exact cloneV_one | exact takF_one | assumption | exact Ints.one (by assumption) | exact slcV_one (by assumption) | exact Bytes.one (by assumption) | exact One.lit ⟨rfl, rfl, rfl⟩)) | (apply asSp; (repeat first | assumption | apply SpAt.set | (refine SpAt.new ?_ (by (first | rfl | (simp only [List.length_append, List.length_cons, List.length_nil, List.length_set]; done) | (simp only [List.length_append, List.length_cons, List.length_nil, List.length_set]; omega)))) | apply SpAt.app | apply Bytes.app); done) | (apply asBytes; (repeat first | assumption | apply Bytes.app); done) | (apply asInts; first | ((repeat first | assumption | exact ints_nil | (apply newV_ints' <;> first | assumption | (first | rfl | (simp only [List.length_append, List.length_cons, List.length_nil, List.length_set]; done) | (simp only [List.length_append, List.length_cons, List.length_nil, List.length_set]; omega))) | (apply grV_ints <;> first | assumption | (first | rfl | (simp only [List.length_append, List.length_cons, List.length_nil, List.length_set]; done) | (simp only [List.length_append, List.length_cons, List.length_nil, List.length_set]; omega))) | (apply Ints.slc <;> first | (repeat first | assumption | apply Ints.app); done | omega) | apply Ints.app); done) | ((repeat first | (apply slice_row <;> first | assumption | (first | rfl | (simp only [List.length_append, List.length_cons, List.length_nil, List.length_set]; done) | (simp only [List.length_append, List.length_cons, List.length_nil, List.length_set]; omega))) | apply Ints.app); done)) | (apply asTak; (repeat first | assumption | (refine TakAt.new ?_; (first | rfl | (simp only [List.length_append, List.length_cons, List.length_nil, List.length_set]; done) | (simp only [List.length_append, List.length_cons, List.length_nil, List.length_set]; omega))) | apply TakAt.app); done) | (apply asScal; (first | apply allS1 | apply allS2 | apply allS3 | apply allS4) <;> (first | exact One.int | exact One.bool | exact newV_one | exact grV_one | exact cloneV_one | exact takF_one | assumption | exact Ints.one (by assumption) | exact slcV_one (by assumption) | exact Bytes.one (by assumption) | exact One.lit ⟨rfl, rfl, rfl⟩)) | exact litT rfl | exact litF rfl | omega | (simp only [List.length_append, List.length_cons, List.length_nil, lst_len, List.length_set, ints_length, List.length_reverse]; first | done | omega) | fail) : p := h
attribute [-go_sem] put_ne put_same
attribute [local go_sem ↓] put_if

theorem st31 {base : Nat} {l : List Oper} {s : St} {Q : AExit → St → Prop} : WP prog raw base (.region 10 l.toArray true) s Q = WPS prog raw base (.region 10 l.toArray true) s Q := WP_stop
attribute [local go_sem ↓ 3000] st31
theorem st31b {base : Nat} {l : List Oper} {s : St} {Q : AExit → St → Prop} : WP prog raw base (.region 12 l.toArray true) s Q = WPS prog raw base (.region 12 l.toArray true) s Q := WP_stop
attribute [local go_sem ↓ 3000] st31b

/-- A chain out of a spool: what the statements need of it. -/
theorem mc_pkg {silk : List Int} {k : Nat} {width cards : Int} (hk : k ≤ 1000) (hw : 1 ≤ width ∧ width ≤ 8) (hc : 1 ≤ cards ∧ cards ≤ 48) :
    ∃ (W K S : Int) (C : List Int) (E : Nat), chkC W C K S = 0 ∧ W ≤ max 2 width ∧ (C.length : Int) ≤ cards ∧ k + 1 ≤ E ∧ E ≤ k + 60 ∧
      ∀ {base id : Nat} {h : Heap} {v : AVal}, SpAt h id v silk k → callL prog raw base (.fn 36 [] []) [.ptr (some ⟨id, 0, 0⟩), .int .i64 width, .int .i64 cards] h =
        some (chn W (.slice (some ⟨h.length, 0, 0⟩) C.length C.length) K S, h.set id (spB v silk E) ++ [rowB C 0]) := by
  have h4 := mcN_bd (silk := silk) (k := k) hc.1
  have hl : (mcL silk k width cards).length = mcN silk k cards := by unfold mcL; rw [lst_len]
  have hne : mcL silk k width cards ≠ [] := by intro e; rw [e, List.length_nil] at hl; omega
  have hj : mcJ silk k = k + 3 ∨ mcJ silk k = k + 2 := by unfold mcJ; split <;> simp
  refine ⟨_, _, _, mcL silk k width cards, mcJ silk k + 1 + mcN silk k cards, mc_ok hw hc, (mc_bd hw).2.1.2, by omega, by omega, by omega, fun hS => ?_⟩
  rw [run36 hS hk hw hc, newV_ne hne, newH_ne hne]

/-- Squares that are changed, one behind the other. -/
def mdL (silk : List Int) (k N : Nat) (W : Int) (P0 : List Int) : Nat → List Int
  | 0 => P0
  | j + 1 => chgL (mdL silk k N W P0 j) (up silk (k + 2 * j) (N - 1)).toNat (up silk (k + 2 * j + 1) (W - 1)).toNat
theorem mdL_len {silk : List Int} {k N : Nat} {W : Int} {P0 : List Int} : ∀ j, (mdL silk k N W P0 j).length = P0.length
  | 0 => rfl
  | j + 1 => by simp only [mdL, chgL_len]; exact mdL_len j
theorem mdL_ok {silk : List Int} {k N : Nat} {W : Int} {P0 : List Int} (hc : chk W P0 = 0) (hN : P0.length = N) : ∀ j, chk W (mdL silk k N W P0 j) = 0
  | 0 => hc
  | j + 1 => by
    have ih := mdL_ok (silk := silk) (k := k) hc hN j
    obtain ⟨hw, hp, _⟩ := chk_ok hc
    have h1 := up_bd (silk := silk) (k := k + 2 * j) (n := (N : Int) - 1) (by omega)
    have h2 := up_bd (silk := silk) (k := k + 2 * j + 1) (n := W - 1) (by omega)
    have hl := mdL_len (silk := silk) (k := k) (N := N) (W := W) (P0 := P0) j
    exact chg_ok (sqr_iff ih (by rw [hl]; omega) (by omega))
theorem wov_ok {W K S : Int} {C : List Int} (hC : chkC W C K S = 0) {n : Nat} (hn : 1 ≤ n ∧ n ≤ 48) : chk W (wov W C K S n) = 0 := by
  obtain ⟨hw, hn', hk, hs, hst, hx⟩ := chkC_ok hC
  refine chk_iff hw (by unfold wov; rw [lst_len]; omega) fun x hm => ?_
  obtain ⟨t, _, rfl⟩ := List.mem_map.1 hm
  have c1 := cardN_lt (k := K.toNat) (n := C.length) (t := t) (by omega)
  have c2 := moveN_lt (k := K.toNat) (n := C.length) (s := S.toNat) (w := W.toNat) (t := t) (by omega)
  have c3 := hx _ (getD_mem c1)
  have h8 := pow_nat (w := W) (by omega)
  have h9 := itN_lt (x := (C.getD (cardN K.toNat C.length t) 0).toNat) (w := W.toNat) (by omega) (moveN K.toNat C.length S.toNat W.toNat t)
  rw [it_rot (by omega) (by omega) (by omega) (by omega)] at h9
  unfold liftN
  omega

set_option maxRecDepth 100000 in
set_option maxHeartbeats 4000000 in
/-- A pattern out of a spool, and its chain. -/
theorem md_pkg {silk : List Int} {k : Nat} {width cards throws changed : Int} (hk : k ≤ 1000) (hw : 1 ≤ width ∧ width ≤ 8) (hc : 1 ≤ cards ∧ cards ≤ 48) (ht : 1 ≤ throws ∧ throws ≤ 48) (hch : 0 ≤ changed ∧ changed ≤ 100) :
    ∃ (W K S : Int) (L C : List Int) (E : Nat), chk W L = 0 ∧ chkC W C K S = 0 ∧ W ≤ max 2 width ∧ (L.length : Int) ≤ throws ∧ (C.length : Int) ≤ cards ∧ E ≤ k + 300 ∧
      ∀ {base id : Nat} {h : Heap} {v : AVal}, SpAt h id v silk k → callL prog raw base (.fn 31 [] []) [.ptr (some ⟨id, 0, 0⟩), .int .i64 width, .int .i64 cards, .int .i64 throws, .int .i64 changed] h =
        some (.tuple [pap W (.slice (some ⟨h.length, 0, 0⟩) L.length L.length), chn W (.slice (some ⟨h.length + 1, 0, 0⟩) C.length C.length) K S], h.set id (spB v silk E) ++ [rowB L 0] ++ [rowB C 0]) := by
  obtain ⟨W, K, S, C, E, hC, hW, hCl, hE1, hE2, hmc⟩ := mc_pkg (silk := silk) (k := k) hk hw hc
  obtain ⟨hw8, hn, hkk, hss, hst, hx⟩ := chkC_ok hC
  have u1 := up_bd (silk := silk) (k := E) (n := throws - 1) (by omega)
  obtain ⟨N, hN⟩ : ∃ N : Nat, 1 + up silk E (throws - 1) = (N : Int) := ⟨(1 + up silk E (throws - 1)).toNat, by omega⟩
  have hN1 : 1 ≤ N ∧ N ≤ 48 := by omega
  have u2 := up_bd (silk := silk) (k := E + 1) (n := changed) (by omega)
  obtain ⟨M, hM⟩ : ∃ M : Nat, up silk (E + 1) changed = (M : Int) := ⟨(up silk (E + 1) changed).toNat, by omega⟩
  have hP0 := wov_ok hC hN1
  have hPl : (wov W C K S N).length = N := by unfold wov; rw [lst_len]
  have hok := mdL_ok (silk := silk) (k := E + 2) hP0 hPl
  have hlen : ∀ j, (mdL silk (E + 2) N W (wov W C K S N) j).length = N := fun j => by rw [mdL_len, hPl]
  refine ⟨W, K, S, mdL silk (E + 2) N W (wov W C K S N) M, C, E + 2 + 2 * M, hok M, hC, hW, by rw [hlen]; omega, hCl, by omega, fun {base id h v} hS => ?_⟩
  have hid := lt_of_get hS.1
  refine callL_run func31 rfl rfl ?_
  have hsC : Small C := ⟨by omega, fun x hm => by have := hx x hm; have := pow_256 hw8.1 hw8.2; omega⟩
  have w0 : wov W C K S 0 = [] := rfl
  have ws : ∀ n, wov W C K S (n + 1) = wov W C K S n ++ [((liftN W.toNat C K.toNat S.toNat n : Nat) : Int)] := fun n => lst_succ
  have hsp := @Nat.succ_ne_zero; repeat' (first | simp (disch := first | exact dschS6 | fail) only [go_sem, ↓reduceIte, hsp, chn, pap, hmc, run71, run72, hN] | refine WP_drw ?_ | refine cnd_intro (fun hsp => ?_) fun hsp => ?_)
  refine WP_count [(14, 14), (25, 36)] 0 N (Nat.zero_le _) (fun H i fr h' => fr 25 = .int .i64 (i : Int) ∧ h' = H.set (h.length + 1 + 1 + 1 + 1) ⟨.cells [.int .i64 W, grV H.length (wov W C K S i)] 24 false false, 0⟩ ++ grH (wov W C K S i)) ?_ ?_ ?_
  · refine ⟨by (simp (disch := first | exact dschS6 | fail) only [go_sem, ↓reduceIte, Int.natCast_zero]; first | done | rfl), ?_⟩
    simp only [w0, grV_nil, grH_nil, List.append_nil]
    simp (disch := first | exact dschS6 | fail) only [go_sem, ↓reduceIte]
  · rintro i fr H hi0 hi hA ⟨r25, rfl⟩
    have p12 := hA 12 rfl
    have p13 := hA 13 rfl
    have p24 := hA 24 rfl
    try simp (disch := first | exact dschS6 | fail) only [go_sem, ↓reduceIte] at p12 p13 p24
    have hlt : ((i : Int) < (N : Int)) = True := eq_true (by omega)
    have htl : (wov W C K S i).length < 1073741824 := by unfold wov; rw [lst_len]; omega
    have hin : 0 ≤ (i : Int) ∧ (i : Int) ≤ 10000000 := by omega
    have hsp := @Nat.succ_ne_zero; repeat' (first | simp (disch := first | exact dschS6 | fail) only [go_sem, ↓reduceIte, hsp, chn, r25, p12, p13, p24, hlt] | refine WP_drw ?_ | refine cnd_intro (fun hsp => ?_) fun hsp => ?_)
    refine ⟨by (repeat first | exact Agree.refl | assumption | refine Agree.put rfl ?_ | refine Agree.put0 ?_ | refine Agree.sub rfl (by assumption) ?_), ?_⟩
    rw [ws]
    first | exact ⟨by omega, rfl⟩ | rfl | (refine ⟨by first | rfl | omega | (simp (disch := first | exact dschS6 | fail) only [go_sem, ↓reduceIte, Int.natCast_zero]; first | done | rfl), ?_⟩; simp (disch := first | exact dschS6 | fail) only [go_sem, ↓reduceIte])
  · rintro fr H hA ⟨r25, rfl⟩
    have p20 := hA 0 rfl
    have p24 := hA 4 rfl
    have p210 := hA 10 rfl
    have p211 := hA 11 rfl
    have p212 := hA 12 rfl
    have p213 := hA 13 rfl
    have p224 := hA 24 rfl
    try simp (disch := first | exact dschS6 | fail) only [go_sem, ↓reduceIte] at p20 p24 p210 p211 p212 p213 p224
    have hlt : (((N : Nat) : Int) < (N : Int)) = False := eq_false (by omega)
    have hne : wov W C K S N ≠ [] := by intro e; rw [e, List.length_nil] at hPl; omega
    have gr1 : ∀ {n : Nat}, grV n (wov W C K S N) = .slice (some ⟨n, N - 1, 0⟩) N N := fun {n} => by
      have : ∀ l : List Int, l ≠ [] → grV n l = .slice (some ⟨n, l.length - 1, 0⟩) l.length l.length := fun l hl => by cases l with | nil => exact absurd rfl hl | cons x xs => rfl
      rw [this _ hne, hPl]
    have gr2 : grH (wov W C K S N) = [rowB (wov W C K S N) (N - 1)] := by
      have : ∀ l : List Int, l ≠ [] → grH l = [rowB l (l.length - 1)] := fun l hl => by cases l with | nil => exact absurd rfl hl | cons x xs => rfl
      rw [this _ hne, hPl]
    have hsp := @Nat.succ_ne_zero; repeat' (first | simp (disch := first | exact dschS6 | fail) only [go_sem, ↓reduceIte, hsp, chn, run71, run72, r25, p20, p24, p210, p211, p212, p213, p224, hlt, gr1, gr2, hM] | refine WP_drw ?_ | refine cnd_intro (fun hsp => ?_) fun hsp => ?_)
    refine WP_count [(40, 60)] 0 M (Nat.zero_le _) (fun H j fr h' => fr 40 = .int .i64 (j : Int) ∧ h' = (H.set id (spB v silk (E + 2 + 2 * j))).set (h.length + 1 + 1 + 1 + 1 + 1) (rowB (mdL silk (E + 2) N W (wov W C K S N) j) (N - 1))) ?_ ?_ ?_
    · refine ⟨by (simp (disch := first | exact dschS6 | fail) only [go_sem, ↓reduceIte, Int.natCast_zero]; first | done | rfl), ?_⟩
      simp only [Nat.mul_zero, Nat.add_zero, mdL]
      simp (disch := first | exact dschS6 | fail) only [go_sem, ↓reduceIte]
    · rintro j fr2 H hj0 hj hA2 ⟨r40, rfl⟩
      have hl := hlen j
      have hb1 := up_bd (silk := silk) (k := E + 2 + 2 * j) (n := (N : Int) - 1) (by omega)
      have hb2 := up_bd (silk := silk) (k := E + 2 + 2 * j + 1) (n := W - 1) (by omega)
      have hmd : mdL silk (E + 2) N W (wov W C K S N) (j + 1) = chgL (mdL silk (E + 2) N W (wov W C K S N) j) (up silk (E + 2 + 2 * j) (N - 1)).toNat (up silk (E + 2 + 2 * j + 1) (W - 1)).toNat := rfl
      rw [hmd]
      have hokj := (chk_ok (hok j)).2.2
      have q10 := hA2 0 rfl
      have q112 := hA2 12 rfl
      have q113 := hA2 13 rfl
      have q139 := hA2 39 rfl
      try simp (disch := first | exact dschS6 | fail) only [go_sem, ↓reduceIte, p20, p212, p213] at q10 q112 q113 q139
      have hlt : ((j : Int) < (M : Int)) = True := eq_true (by omega)
      have e3 : E + 2 + 2 * j + 1 + 1 = E + 2 + 2 * (j + 1) := by omega
      obtain ⟨a, ha⟩ : ∃ a : Nat, up silk (E + 2 + 2 * j) (N - 1) = (a : Int) := ⟨(up silk (E + 2 + 2 * j) (N - 1)).toNat, by omega⟩
      obtain ⟨b, hb⟩ : ∃ b : Nat, up silk (E + 2 + 2 * j + 1) (W - 1) = (b : Int) := ⟨(up silk (E + 2 + 2 * j + 1) (W - 1)).toNat, by omega⟩
      rw [ha] at hb1 ⊢
      rw [hb] at hb2 ⊢
      generalize mdL silk (E + 2) N W (wov W C K S N) j = l at *
      have hla : a < l.length := by omega
      have hxa := hokj _ (getD_mem hla)
      have h256 := pow_256 hw8.1 hw8.2
      obtain ⟨x, hx0⟩ : ∃ x : Nat, l.getD a 0 = (x : Int) := ⟨(l.getD a 0).toNat, by omega⟩
      have hb7 : 2 ^ b ≤ 128 := Nat.le_trans (Nat.pow_le_pow_right (by decide) (show b ≤ 7 by omega)) (by decide)
      rw [hx0] at hxa
      obtain ⟨B, hB⟩ : ∃ B : Nat, 2 ^ b = B := ⟨_, rfl⟩
      rw [hB] at hb7
      have hshl : ∀ {t : TypeId}, binA prog .shl t (.int .i64 1) (.int .i64 (b : Int)) = some (.int .i64 (B : Int)) := fun {t} => by
        rw [bin_shl (by omega)]
        have e1 : min ((b : Int)).toNat IntKind.i64.bits = b := by simp [IntKind.bits]; omega
        have e2 : (2 : Int) ^ b = ((2 ^ b : Nat) : Int) := by simp
        rw [e1, Int.one_mul, e2, hB, wrap64 (by omega) (by omega)]
      have hxor : ∀ {t : TypeId}, binA prog .xor t (.int .i64 (x : Int)) (.int .i64 (B : Int)) = some (.int .i64 ((x ^^^ B : Nat) : Int)) := fun {t} => xor_N (by omega) (by omega)
      have hch : chgL l a b = l.set a ((x ^^^ B : Nat) : Int) := by unfold chgL; rw [hx0, Int.toNat_natCast, hB]
      simp only [Int.toNat_natCast]
      rw [hch]
      have hsp := @Nat.succ_ne_zero; repeat' (first | simp (disch := first | exact dschS6 | fail) only [go_sem, ↓reduceIte, hsp, r40, q10, q112, q113, q139, hlt] | refine WP_drw ?_ | refine cnd_intro (fun hsp => ?_) fun hsp => ?_)
      refine WPS_go ?_
      refine WP_wild [⟨1, 22, 42, ⟨h.length + 1 + 1 + 1 + 1, 0, 1⟩, .slice (some ⟨h.length + 1 + 1 + 1 + 1 + 1, N - 1, 0⟩) N N, 18⟩, ⟨9, 3, 50, ⟨h.length + 1 + 1 + 1 + 1 + 1, N - 1, a⟩, .int .i64 x, 18⟩, ⟨12, 3, 53, ⟨h.length + 1 + 1 + 1, 0, 0⟩, .int .i64 W, 14⟩] (by kernel_rfl) (by kernel_rfl) (by kernel_rfl) ⟨refsLow_slice (by simp only [List.length_append, List.length_cons, List.length_nil, List.length_set]; omega), refsLow_int, refsLow_int, trivial⟩ fun K hK => ?_
      iterate 19
        rw [TRS_cons]
        refine ⟨by first | (simp (disch := first | exact dschS6 | fail) only [go_sem, ↓reduceIte, chn, run71, r40, q10, q112, q113, q139, ha, hb, hshl, hxor, hx0, hl, Fc.ln22, Fc.as22, ldsQ_cons, ldsQ_nil, if_true, Nat.reduceLeDiff]; done) | exact trivial, ?_⟩
        simp (disch := first | exact dschS6 | fail) only [go_sem, ↓reduceIte, chn, run71, r40, q10, q112, q113, q139, ha, hb, hshl, hxor, hx0, hl, Fc.ln22, Fc.as22]
      rw [TRS_nil]
      refine ⟨by first | (simp (disch := first | exact dschS6 | fail) only [go_sem, ↓reduceIte, chn, run71, r40, q10, q112, q113, q139, ha, hb, hshl, hxor, hx0, hl, Fc.ln22, Fc.as22, ldsQ_cons, ldsQ_nil, if_true, Nat.reduceLeDiff]; done) | exact trivial, ?_⟩
      subst hK
      have hsp := @Nat.succ_ne_zero; repeat' (first | simp (disch := first | exact dschS6 | fail) only [go_sem, ↓reduceIte, hsp, r40, q10, q112, q113, q139, hlt] | refine WP_drw ?_ | refine cnd_intro (fun hsp => ?_) fun hsp => ?_)
      refine ⟨by (repeat first | exact Agree.refl | assumption | refine Agree.put rfl ?_ | refine Agree.put0 ?_ | refine Agree.sub rfl (by assumption) ?_), by omega, ?_⟩
      rw [e3]
      try (first | rfl | (simp (disch := first | exact dschS6 | fail) only [go_sem, ↓reduceIte]; first | done | rfl))
    · rintro fr2 H hA2 ⟨r40, rfl⟩
      have q20 := hA2 0 rfl
      have q210 := hA2 10 rfl
      have q211 := hA2 11 rfl
      have q212 := hA2 12 rfl
      have q213 := hA2 13 rfl
      have q239 := hA2 39 rfl
      try simp (disch := first | exact dschS6 | fail) only [go_sem, ↓reduceIte, p20, p210, p211, p212, p213] at q20 q210 q211 q212 q213 q239
      have hlt : (((M : Nat) : Int) < (M : Int)) = False := eq_false (by omega)
      have hsp := @Nat.succ_ne_zero; repeat' (first | simp (disch := first | exact dschS6 | fail) only [go_sem, ↓reduceIte, hsp, chn, r40, q20, q210, q211, q212, q213, q239, hlt] | refine WP_drw ?_ | refine cnd_intro (fun hsp => ?_) fun hsp => ?_)
      refine WPS_go ?_
      refine WP_loose [⟨1, 34, 12, ⟨h.length + 1 + 1 + 1, 0, 0⟩, chn W (.slice (some ⟨h.length + 1 + 1, 0, 0⟩) C.length C.length) K S, 3⟩] (by kernel_rfl) (by kernel_rfl) ⟨?_, trivial⟩ fun K hK => ?_
      · simp only [refsLow, AVal.refs, refsL]
        split <;> (first | (simp; done) | (simp; omega))
      iterate 4
        rw [TRS_cons]
        refine ⟨by first | (simp (disch := first | exact dschS6 | fail) only [go_sem, ↓reduceIte, chn, r40, q20, q210, q211, q212, q213, q239, ldsQ_cons, ldsQ_nil, if_true, Nat.reduceLeDiff]; done) | exact trivial, ?_⟩
        simp (disch := first | exact dschS6 | fail) only [go_sem, ↓reduceIte, chn, r40, q20, q210, q211, q212, q213, q239]
      rw [TRS_nil]
      refine ⟨by first | (simp (disch := first | exact dschS6 | fail) only [go_sem, ↓reduceIte, chn, r40, q20, q210, q211, q212, q213, q239, ldsQ_cons, ldsQ_nil, if_true, Nat.reduceLeDiff]; done) | exact trivial, ?_⟩
      subst hK
      have hsp := @Nat.succ_ne_zero; repeat' (first | simp (disch := first | exact dschS6 | fail) only [go_sem, ↓reduceIte, hsp, chn, pap, r40, q20, q210, q211, q212, q213, q239] | refine WP_drw ?_ | refine cnd_intro (fun hsp => ?_) fun hsp => ?_)
      obtain ⟨h1, eh1⟩ : ∃ h1, h1 = h.set id (spB v silk (E + 2 + 2 * M)) := ⟨_, rfl⟩
      have el : h1.length = h.length := by rw [eh1]; simp
      rw [← eh1, ← el, hlen]
      simp only [List.append_assoc]
      have hN0 : N ≠ 0 := by omega
      have hC0 : C.length ≠ 0 := by omega
      rw [compact_two (i := 5) (j := 2) (u := N - 1) (x := 0) (c := ints (mdL silk (E + 2) N W (wov W C K S N) M)) (d := ints C) (e := 3) (f := 3) (row := true) (row' := true) (ro := false) (ro' := false) (by simp [AVal.refs, refsL, hN0, hC0]) (by decide) rfl rfl (ints_plain _) (ints_plain _)]
      have n1 : newId h1.length [h1.length + 5, h1.length + 2] (h1.length + 1 + 1 + 1 + 1 + 1) (N - 1) = (h1.length, 0) := newId_fst
      have n2 : newId h1.length [h1.length + 5, h1.length + 2] (h1.length + 1 + 1) 0 = (h1.length + 1, 0) := newId_snd (by decide)
      simp only [AVal.ren, renL, n1, n2]
      rfl
end Go.AM
