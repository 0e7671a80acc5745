/-
  Contracts: lists of so many numbers, one behind the other (lists).
-/
import Derived.Test.YtlhmeoeamcgcmaaGreatG2
set_option linter.unusedSimpArgs false
set_option linter.unusedVariables false
namespace Go.AM
open Go.Proofs.Tryz
theorem dschE27 {p : Prop} (h : p := by first | exact Nat.ne_of_beq_eq_false rfl | assumption | (apply asOne; (first | exact One.int | exact One.bool | assumption | exact Ints.one (by assumption) | exact Rows.one (by assumption) | exact Own.one (by assumption) | exact One.lit ⟨rfl, rfl, rfl⟩)) | (apply asInts; (repeat first | assumption | exact ints_nil | apply Ints.app); done) | (apply asRows; (repeat first | assumption | exact Rows.nil | apply Rows.app); done) | (apply asScal; (first | apply allS1 | apply allS2 | apply allS3 | apply allS4) <;> (first | exact One.int | exact One.bool | assumption | exact Ints.one (by assumption) | exact Rows.one (by assumption) | exact Own.one (by assumption) | exact One.lit ⟨rfl, rfl, rfl⟩)) | exact litT rfl | exact litF rfl | omega | (simp only [List.length_append, List.length_cons, List.length_nil, List.length_set, List.length_reverse]; first | done | omega) | fail) : p := h
attribute [-go_sem] put_ne put_same
attribute [local go_sem ↓] put_if
/-- The lists of d numbers more, of those from a place on, behind l: in their order. -/
def lexC (of : List Int) : Nat → List Int → Nat → List (List Int)
  | 0, l, _ => [l]
  | d + 1, l, a => (List.range (of.length - a)).flatMap fun q => lexC of d (l ++ [of.getD (a + q) 0]) (a + q + 1)
def lexP (of : List Int) (d : Nat) (l : List Int) (a j : Nat) : List (List Int) := (List.range j).flatMap fun q => lexC of d (l ++ [of.getD (a + q) 0]) (a + q + 1)
theorem lexP_succ {of l : List Int} {d a j : Nat} : lexP of d l a (j + 1) = lexP of d l a j ++ lexC of d (l ++ [of.getD (a + j) 0]) (a + j + 1) := by simp [lexP, List.range_succ]
theorem lexP_pre {of l : List Int} {d a j : Nat} : ∀ k, ∃ s, lexP of d l a (j + k) = lexP of d l a j ++ s
  | 0 => ⟨[], by simp⟩
  | k + 1 => by
    obtain ⟨s, e⟩ := lexP_pre (of := of) (l := l) (d := d) (a := a) (j := j) k
    exact ⟨s ++ lexC of d (l ++ [of.getD (a + (j + k)) 0]) (a + (j + k) + 1), by rw [show j + (k + 1) = (j + k) + 1 by omega, lexP_succ, e, List.append_assoc]⟩
/-- Lists are visited until one is the right one; the last one that was visited. -/
def visF (p : List Int → Bool) : List (List Int) → Option (List Int) → Bool × Option (List Int)
  | [], o => (false, o)
  | x :: xs, _ => if p x = true then (true, some x) else visF p xs (some x)
theorem visF_app {p : List Int → Bool} {b : List (List Int)} : ∀ {a : List (List Int)} {o : Option (List Int)}, visF p (a ++ b) o = if (visF p a o).1 = true then visF p a o else visF p b (visF p a o).2
  | [], o => by simp [visF]
  | x :: a, o => by
    simp only [List.cons_append, visF]
    split
    · simp
    · exact visF_app
/-- All blocks but one stay. -/
def KeepX (ob : Nat) (H H' : Heap) : Prop := H.length ≤ H'.length ∧ ∀ i b, i ≠ ob → H[i]? = some b → H'[i]? = some b
section
variable {ob : Nat} {H H' H2 : Heap}
theorem KeepX.refl : KeepX ob H H := ⟨Nat.le_refl _, fun _ _ _ h => h⟩
theorem KeepX.trans (a : KeepX ob H H') (b : KeepX ob H' H2) : KeepX ob H H2 := ⟨Nat.le_trans a.1 b.1, fun i k hi h => b.2 i k hi (a.2 i k hi h)⟩
theorem KeepX.ofExt (e : Ext H H') : KeepX ob H H' := ⟨e.len, fun _ _ _ h => e.get h⟩
theorem KeepX.set {k : ABlk} (a : KeepX ob H H') : KeepX ob H (H'.set ob k) := ⟨by rw [List.length_set]; exact a.1, fun i b hi h => by rw [get_set_ne (fun e => hi e.symm)]; exact a.2 i b hi h⟩
theorem KeepX.own {α : Type} {E : Enc α} {e : TypeId} {b : Nat} {v : AVal} {l : List α} (a : KeepX ob H H') (x : Own E e b H v l) (hv : Off [ob] v) : Own E e b H' v l := by
  rcases x with ⟨rfl, rfl⟩ | ⟨id, ver, rfl, h1, h2, h3⟩
  · exact .nil
  · exact .inr ⟨id, ver, rfl, a.2 id _ (fun e => hv _ _ _ rfl (by rw [e]; simp)) h1, h2, h3⟩
theorem KeepX.ints {v : AVal} {l : List Int} (a : KeepX ob H H') (x : Ints H v l) (hv : Off [ob] v) : Ints H' v l := by
  refine ⟨x.1, x.2.imp id (.imp id ?_)⟩
  rintro ⟨r, k, c, e, row, ro, rfl, h2, h3⟩
  exact ⟨r, k, c, e, row, ro, rfl, a.2 r.id _ (fun e => hv _ _ _ rfl (by rw [e]; simp)) h2, h3⟩
end
/-- A copy of a slice that is full. -/
theorem run_cloneI {base : Nat} {h : Heap} {v : AVal} {l : List Int} (hO : Own encI 3 0 h v l) (hs : Small l) : ∃ v' H, callL prog raw base (.fn 105 [] []) [v] h = some (v', H) ∧ Ext h H ∧ Own encI 3 h.length H v' l := by
  have hI := (hO.rows (by have := hs.1; omega)).ints hs.2
  have hc := run_clone (base := base) hI hs
  rcases hO with ⟨rfl, rfl⟩ | ⟨id, ver, rfl, h1, h2, h3⟩
  · refine ⟨_, _, hc, ?_, ?_⟩
    · simp only [cloneH]; exact .app .refl
    · simp only [cloneV, nilB, if_true]; exact Own.nil
  · have hne : l ≠ [] := fun e => by rw [e] at h3; simp at h3
    have e1 : nilB (.slice (some ⟨id, ver, 0⟩) l.length l.length) = false := rfl
    rw [cloneV, cloneH, if_neg (by simp [e1]), if_neg (by simp [e1]), newV_ne hne, newH_ne hne] at hc
    refine ⟨_, _, hc, .app .refl, .inr ⟨h.length, 0, rfl, ?_, Nat.le_refl _, h3⟩⟩
    rw [get_eq rfl, rowB, rowE, flat_encI]
/-- What is asked of a callback: it says p, and goes from a state to the next one. -/
def Back (base ob : Nat) (g : AVal) (of : List Int) (many : Nat) (p : List Int → Bool) (I : Option (List Int) → Heap → Prop) : Prop :=
  ∀ H o sv l, base ≤ H.length → ob < H.length → I o H → Own encI 3 0 H sv l → Off [ob] sv → l.length = many → (∀ x ∈ l, x ∈ of) → ∃ H', callL prog raw base g [sv] H = some (.bool (p l), H') ∧ KeepX ob H H' ∧ I (some l) H'
def moreV (M S O R : Nat) : AVal := .fn 140 [] [.ptr (some ⟨M, 0, 0⟩), .ptr (some ⟨S, 0, 0⟩), .ptr (some ⟨O, 0, 0⟩), .ptr (some ⟨R, 0, 0⟩)]
def MoreAt (H : Heap) (ob M S O R many : Nat) (g ofv : AVal) : Prop := (M ≠ ob ∧ S ≠ ob ∧ O ≠ ob ∧ R ≠ ob) ∧ H[M]? = some ⟨.cells [.int .i64 (many : Int)] 3 false false, 0⟩ ∧ H[S]? = some ⟨.cells [g] 154 false false, 0⟩ ∧ H[O]? = some ⟨.cells [ofv] 36 false false, 0⟩ ∧ H[R]? = some ⟨.cells [moreV M S O R] 121 false false, 0⟩
theorem MoreAt.keep {H H' : Heap} {ob M S O R many : Nat} {g ofv : AVal} (x : MoreAt H ob M S O R many g ofv) (k : KeepX ob H H') : MoreAt H' ob M S O R many g ofv := by
  obtain ⟨⟨a, b, c, d⟩, x1, x2, x3, x4⟩ := x
  exact ⟨⟨a, b, c, d⟩, k.2 _ _ a x1, k.2 _ _ b x2, k.2 _ _ c x3, k.2 _ _ d x4⟩
theorem lt_of_slice {H : Heap} {r : ARef} {n k : Nat} {l : List Int} (x : Ints H (.slice (some r) n k) l) : r.id < H.length := by
  rcases x.2 with ⟨q, _⟩ | ⟨q, _⟩ | ⟨r', k', c, e, row, ro, q, h2, _⟩
  · cases q
  · cases q
  · cases q; exact lt_of_get h2
theorem stE27 {base : Nat} {l : List Oper} {s : St} {Q : AExit → St → Prop} : WP prog raw base (.region 6 l.toArray true) s Q = WPS prog raw base (.region 6 l.toArray true) s Q := WP_stop
attribute [local go_sem ↓ 3000] stE27
set_option maxHeartbeats 2000000 in
theorem run_more {base ob M S O R many : Nat} {g ofv : AVal} {of : List Int} {p : List Int → Bool} {I : Option (List Int) → Heap → Prop} (hg : One g) (hcb : Back base ob g of many p I) (hI : ∀ o H H', Ext H H' → I o H → I o H') (hofl : of.length ≤ 1000) (hofo : Off [ob] ofv) (hmany : many ≤ 1000) :
    ∀ (d : Nat) {l : List Int} {a : Nat} {lv : AVal} {H : Heap} {o : Option (List Int)}, l.length + d = many → base ≤ H.length → ob < H.length → Own encI 3 0 H lv l → Off [ob] lv → (∀ x ∈ l, x ∈ of) → a ≤ of.length → Ints H ofv of → I o H → MoreAt H ob M S O R many g ofv →
    Ret prog raw base (moreV M S O R) [lv, .int .i64 (a : Int)] H (fun v H' => v = .bool (visF p (lexC of d l a) o).1 ∧ KeepX ob H H' ∧ I (visF p (lexC of d l a) o).2 H') := by
  intro d
  induction d with
  | zero =>
    intro l a lv H o hl hb hob hO hof hsub ha hOI hio hM
    obtain ⟨⟨n1, n2, n3, n4⟩, m1, m2, m3, m4⟩ := hM
    have hll := own_len hO Fc.el36 (by omega)
    have t1 : ((l.length : Int) = (many : Int)) = True := eq_true (by omega)
    obtain ⟨H', e1, k1, i1⟩ := hcb H o lv l hb hob hio hO hof (by omega) hsub
    have r : visF p (lexC of 0 l a) o = (p l, some l) := by
      simp only [lexC, visF]
      cases p l <;> rfl
    rw [r]
    refine ret_raw func140 rfl (by kernel_rfl) ?_
    have hsp := @Nat.succ_ne_zero; repeat' (first | simp (disch := first | exact dschE27 | fail) only [go_sem, ↓reduceIte, hsp, hll, m1, t1, m2, e1] | refine WP_drw ?_ | refine cnd_intro (fun hsp => ?_) fun hsp => ?_)
    exact ⟨k1, i1⟩
  | succ d ih =>
    intro l a lv H o hl hb hob hO hof hsub ha hOI hio hM
    have hM0 := hM
    obtain ⟨⟨n1, n2, n3, n4⟩, m1, m2, m3, m4⟩ := hM
    have hll := own_len hO Fc.el36 (by omega)
    have t1 : ((l.length : Int) = (many : Int)) = False := eq_false (by omega)
    refine ret_raw func140 rfl (by kernel_rfl) ?_
    have hsp := @Nat.succ_ne_zero; repeat' (first | simp (disch := first | exact dschE27 | fail) only [go_sem, ↓reduceIte, hsp, hll, m1, t1] | refine WP_drw ?_ | refine cnd_intro (fun hsp => ?_) fun hsp => ?_)
    refine WP_count [(8, 35)] 0 (of.length - a) (Nat.zero_le _) (fun _ j fr h' => fr 9 = .int .i64 ((a + j : Nat) : Int) ∧ KeepX ob H h' ∧ (visF p (lexP of d l a j) o).1 = false ∧ I (visF p (lexP of d l a j) o).2 h') ?_ ?_ ?_
    · exact ⟨by (simp (disch := first | exact dschE27 | fail) only [go_sem, ↓reduceIte, Int.natCast_zero]; first | done | rfl), .refl, rfl, hio⟩
    · rintro j fr H1 hj0 hj hA ⟨r9, xK, hv, hi1⟩
      have p0 := hA 0 rfl
      have p4 := hA 4 rfl
      have p5 := hA 5 rfl
      try simp (disch := first | exact dschE27 | fail) only [go_sem, ↓reduceIte] at p0 p4 p5
      have hM1 := hM0.keep xK
      obtain ⟨_, q1, q2, q3, q4⟩ := hM1
      have hlk := xK.1
      have hOI1 := xK.ints hOI hofo
      have hO1 := xK.own hO hof
      have hlt : (((a + j : Nat) : Int) < (of.length : Int)) = True := eq_true (by omega)
      have hsp := @Nat.succ_ne_zero; repeat' (first | simp (disch := first | exact dschE27 | fail) only [go_sem, ↓reduceIte, hsp, r9, p0, p4, p5, q3, hlt] | refine WP_drw ?_ | refine cnd_intro (fun hsp => ?_) fun hsp => ?_)
      refine WPS_go ?_
      obtain ⟨x, ex⟩ : ∃ x, x = of.getD (a + j) 0 := ⟨_, rfl⟩
      have hxm : x ∈ of := by rw [ex]; exact getD_mem (by omega)
      have hxb := hOI.1.2 x hxm
      obtain ⟨r, rk, eofv⟩ : ∃ (r : ARef) (k : Nat), ofv = .slice (some r) of.length k := by
        rcases hOI.2 with ⟨_, q⟩ | ⟨_, q⟩ | ⟨r, k, _, _, _, _, q, _⟩
        · rw [q] at hj; simp at hj
        · rw [q] at hj; simp at hj
        · exact ⟨r, k, q⟩
      have hld : ∀ {H' : Heap}, Ints H' ofv of → ldB (some (false, 1)) H'[r.id]? r.ver (r.off + (a + j)) = some (.int .i64 x) := fun {H'} y => by
        have q := loadI y (show a + j < of.length by omega)
        rw [eofv] at q
        simp only [elAddr, ARef.add] at q
        rw [load_eq, Fc.ty3] at q
        rw [q, ex]
      have had : indexAddrA prog 36 ofv (.int .i64 ((a + j : Nat) : Int)) = some (.ptr (some ⟨r.id, r.ver, r.off + (a + j)⟩)) := by
        have q := adrI (i := ((a + j : Nat) : Int)) (by omega) hOI1 (by omega)
        rw [q, eofv, Int.toNat_natCast]
        rfl
      have hsmall : Small l := ⟨by omega, fun y hy => hOI.1.2 y (hsub y hy)⟩
      obtain ⟨cv, H2, e2, x2, o2⟩ := run_cloneI (base := base) hO1 hsmall
      have hl2 := x2.len
      obtain ⟨v', H3, ea, oV, hle, hE, hV1⟩ := o2.append1 (y := x) (base := base) (t := 36) rfl rfl Fc.el36 encI_sc (by omega) hl2 (by omega)
      have x3 : Ext H1 H3 := hE H1 (Nat.le_refl _) x2
      have hl3 := x3.len
      have k3 : KeepX ob H1 H3 := .ofExt x3
      have hs2 : ∀ y ∈ l ++ [x], y ∈ of := fun y hy => by
        rcases List.mem_append.1 hy with q | q
        · exact hsub y q
        · simp at q; rw [q]; exact hxm
      obtain ⟨rv, H4, e4, rfl, k4, i4⟩ := ih (l := l ++ [x]) (a := a + j + 1) (lv := v') (H := H3) (o := (visF p (lexP of d l a j) o).2) (by simp; omega) (by omega) (by omega) (oV.low (Nat.zero_le _)) (oV.off (fun i hi => by simp at hi; omega)) hs2 (by omega) (hOI1.ext x3) (hI _ _ _ x3 hi1) ((hM0.keep xK).keep k3)
      have hjj : (((a + j : Nat) : Int) + 1) = ((a + j + 1 : Nat) : Int) := by omega
      have g42 := x2.get q4
      have g43 := x3.get q4
      have g32 := x2.get q3
      have hd1 := hld hOI1
      have hd2 := hld (hOI1.ext x2)
      have hlow1 : refsLow H1.length (moreV M S O R) := by
        have a1 := lt_of_get q1
        have a2 := lt_of_get q2
        have a3 := lt_of_get q3
        have a4 := lt_of_get q4
        simp [refsLow, moreV, AVal.refs, refsL, a1, a2, a3, a4]
      have hlow2 : refsLow H1.length ofv := by rw [eofv]; exact refsLow_slice (by have := hOI1; rw [eofv] at this; exact lt_of_slice this)
      have hsp := visF_app (p := p) (a := lexP of d l a j) (b := lexC of d (l ++ [x]) (a + j + 1)) (o := o)
      rw [ex, ← lexP_succ, ← ex, if_neg (by simp [hv])] at hsp
      rw [← hsp] at e4 i4
      obtain ⟨res, eres⟩ : ∃ res, res = visF p (lexP of d l a (j + 1)) o := ⟨_, rfl⟩
      rw [← eres] at e4 i4 ⊢
      refine WP_wild [⟨0, 121, 5, ⟨R, 0, 0⟩, moreV M S O R, 11⟩, ⟨3, 36, 4, ⟨O, 0, 0⟩, ofv, 8⟩, ⟨6, 3, 29, ⟨r.id, r.ver, r.off + (a + j)⟩, .int .i64 x, 8⟩] (by kernel_rfl) (by kernel_rfl) (by kernel_rfl) ⟨hlow1, hlow2, refsLow_int, trivial⟩ fun K hK => ?_
      iterate 12
        rw [TRS_cons]
        refine ⟨by first | (simp (disch := first | exact dschE27 | fail) only [go_sem, ↓reduceIte, r9, p0, p4, p5, q4, q3, g42, g43, g32, hd1, hd2, had, e2, ea, hjj, e4, ldsQ_cons, ldsQ_nil, if_true, Nat.reduceLeDiff]; done) | exact trivial, ?_⟩
        simp (disch := first | exact dschE27 | fail) only [go_sem, ↓reduceIte, r9, p0, p4, p5, q4, q3, g42, g43, g32, hd1, hd2, had, e2, ea, hjj, e4]
      rw [TRS_nil]
      refine ⟨by first | (simp (disch := first | exact dschE27 | fail) only [go_sem, ↓reduceIte, r9, p0, p4, p5, q4, q3, g42, g43, g32, hd1, hd2, had, e2, ea, hjj, e4, ldsQ_cons, ldsQ_nil, if_true, Nat.reduceLeDiff]; done) | exact trivial, ?_⟩
      subst hK
      have hkf : KeepX ob H H4 := (xK.trans k3).trans k4
      cases hres : res.1 with
      | true =>
        have hwh : visF p (lexC of (d + 1) l a) o = res := by
          obtain ⟨s, e⟩ := lexP_pre (of := of) (l := l) (d := d) (a := a) (j := j + 1) (of.length - a - (j + 1))
          rw [show j + 1 + (of.length - a - (j + 1)) = of.length - a by omega] at e
          show visF p (lexP of d l a (of.length - a)) o = res
          rw [e, visF_app, if_pos (by rw [← eres]; exact hres), eres]
        have hsp := @Nat.succ_ne_zero; repeat' (first | simp (disch := first | exact dschE27 | fail) only [go_sem, ↓reduceIte, hsp, p0, p4, p5, hres] | refine WP_drw ?_ | refine cnd_intro (fun hsp => ?_) fun hsp => ?_)
        rw [hwh]
        exact ⟨by rw [hres], hkf, i4⟩
      | false =>
        have hsp := @Nat.succ_ne_zero; repeat' (first | simp (disch := first | exact dschE27 | fail) only [go_sem, ↓reduceIte, hsp, r9, p0, p4, p5, hres] | refine WP_drw ?_ | refine cnd_intro (fun hsp => ?_) fun hsp => ?_)
        exact ⟨by (repeat first | exact Agree.refl | assumption | refine Agree.put rfl ?_ | refine Agree.put0 ?_ | refine Agree.sub rfl (by assumption) ?_), by first | rfl | omega, hkf, i4⟩
    · rintro fr H1 hA ⟨r9, xK, hv, hi1⟩
      have p0 := hA 0 rfl
      have p4 := hA 4 rfl
      have p5 := hA 5 rfl
      try simp (disch := first | exact dschE27 | fail) only [go_sem, ↓reduceIte] at p0 p4 p5
      have hM1 := hM0.keep xK
      obtain ⟨_, q1, q2, q3, q4⟩ := hM1
      have hOI1 := xK.ints hOI hofo
      have hlt : (((a + (of.length - a) : Nat) : Int) < (of.length : Int)) = False := eq_false (by omega)
      have hsp := @Nat.succ_ne_zero; repeat' (first | simp (disch := first | exact dschE27 | fail) only [go_sem, ↓reduceIte, hsp, r9, p0, p4, p5, q3, hlt] | refine WP_drw ?_ | refine cnd_intro (fun hsp => ?_) fun hsp => ?_)
      refine ⟨?_, xK, hi1⟩
      show _ = AVal.bool (visF p (lexP of d l a (of.length - a)) o).1
      rw [hv]
/-- fault.lists. -/
theorem run_lists {base ob many : Nat} {h : Heap} {g ofv : AVal} {of : List Int} {p : List Int → Bool} {I : Option (List Int) → Heap → Prop} {o : Option (List Int)} (hb : base ≤ h.length) (hob : ob < h.length) (hg : One g) (hcb : Back base ob g of many p I) (hI : ∀ o H H', Ext H H' → I o H → I o H') (hofl : of.length ≤ 1000) (hofo : Off [ob] ofv) (hmany : many ≤ 1000) (hOI : Ints h ofv of) (hio : I o h) :
    Ret prog raw base (.fn 84 [] []) [ofv, .int .i64 (many : Int), g] h (fun v H' => v = .bool (visF p (lexC of many [] 0) o).1 ∧ KeepX ob h H' ∧ I (visF p (lexC of many [] 0) o).2 H') := by
  obtain ⟨h2, eh2⟩ : ∃ h2 : Heap, h2 = h ++ [⟨.cells [ofv] 36 false false, 0⟩] ++ [⟨.cells [.int .i64 (many : Int)] 3 false false, 0⟩] ++ [⟨.cells [g] 154 false false, 0⟩] ++ [⟨.cells [moreV (h.length + 1) (h.length + 1 + 1) h.length (h.length + 1 + 1 + 1)] 121 false false, 0⟩] := ⟨_, rfl⟩
  have xh : Ext h h2 := by rw [eh2]; exact .app (.app (.app (.app .refl)))
  have hl2 := xh.len
  have hM : MoreAt h2 ob (h.length + 1) (h.length + 1 + 1) h.length (h.length + 1 + 1 + 1) many g ofv := by
    rw [eh2]
    exact ⟨⟨by omega, by omega, by omega, by omega⟩, get_app (get_app (get_eq (by simp))), get_app (get_eq (by simp)), get_app (get_app (get_app (get_eq rfl))), get_eq (by simp)⟩
  obtain ⟨v1, H1, e1, rfl, k1, i1⟩ := run_more hg hcb hI hofl hofo hmany many (l := []) (a := 0) (lv := .slice none 0 0) (H := h2) (o := o) (by simp) (by omega) (by omega) Own.nil (fun r n c q => by cases q) (fun x hx => by cases hx) (Nat.zero_le _) (hOI.ext xh) (hI _ _ _ xh hio) hM
  rw [eh2, Int.natCast_zero] at e1
  unfold moreV at e1
  have hov := hOI.one
  have hz : ∀ {H : Heap}, True := fun {_} => trivial
  refine ret_raw func84 rfl (by kernel_rfl) ?_
  have hsp := @Nat.succ_ne_zero; repeat' (first | simp (disch := first | exact dschE27 | fail) only [go_sem, ↓reduceIte, hsp, e1] | refine WP_drw ?_ | refine cnd_intro (fun hsp => ?_) fun hsp => ?_)
  exact ⟨(KeepX.ofExt xh).trans k1, i1⟩
end Go.AM
/-
  Contracts: as few sights as can be that clash (Clash).
-/
namespace Go.AM
open Go.Proofs.Tryz
theorem dschE28 {p : Prop} (h : p := by first | exact Nat.ne_of_beq_eq_false rfl | assumption | (apply asOne; (first | exact One.int | exact One.bool | assumption | exact Ints.one (by assumption) | exact Rows.one (by assumption) | exact Own.one (by assumption) | exact One.lit ⟨rfl, rfl, rfl⟩)) | (apply asInts; (repeat first | assumption | exact ints_nil | apply Ints.app); done) | (apply asRows; (repeat first | assumption | exact Rows.nil | apply Rows.app); done) | (apply asScal; (first | apply allS1 | apply allS2 | apply allS3 | apply allS4) <;> (first | exact One.int | exact One.bool | assumption | exact Ints.one (by assumption) | exact Rows.one (by assumption) | exact Own.one (by assumption) | exact One.lit ⟨rfl, rfl, rfl⟩)) | exact litT rfl | exact litF rfl | omega | (simp only [List.length_append, List.length_cons, List.length_nil, List.length_set, List.length_reverse]; first | done | omega) | fail) : p := h
attribute [-go_sem] put_ne put_same
attribute [local go_sem ↓] put_if
def lomB (L : Lom) (pv sv : AVal) : ABlk := ⟨.cells [.int .i64 L.R, .int .i64 L.T, pv, sv] 25 false false, 0⟩
def outB (v : AVal) : ABlk := ⟨.cells [v] 36 false false, 0⟩
theorem chkM_le {L : Lom} : 0 ≤ chkM L ∧ chkM L ≤ 4 := by
  unfold chkM
  repeat' split
  all_goals omega
/-- No truth explains these sights. -/
def clsP (L : Lom) (l : List Int) : Bool := decide ((expM L (deskN L l).1 (deskN L l).2 allF).1 = 0)
def clsF (L : Lom) : Nat → Nat → Option (List Int) → Option (List Int)
  | 0, _, o => o
  | k + 1, m, o => if (visF (clsP L) (lexC (upto L.ss.length) (m + 1) [] 0) o).1 = true then (visF (clsP L) (lexC (upto L.ss.length) (m + 1) [] 0) o).2 else clsF L k (m + 1) (visF (clsP L) (lexC (upto L.ss.length) (m + 1) [] 0) o).2
/-- fault.Clash. -/
def clsM (L : Lom) : List Int × Int := if tolE L false = 0 then ([], 6) else if tolE L false = 7 then ((clsF L L.ss.length 0 none).getD [], 0) else ([], tolE L false)
/-- What holds while lists are visited: h0 what was there before the variable ob. -/
def OutI (h0 : Heap) (ob : Nat) (o : Option (List Int)) (H : Heap) : Prop := h0.length ≤ ob ∧ Ext h0 H ∧ ∃ sv, H[ob]? = some (outB sv) ∧ Own encI 3 0 H sv (o.getD []) ∧ Off [ob] sv
theorem OutI.ext {h0 H H' : Heap} {ob : Nat} {o : Option (List Int)} (x : OutI h0 ob o H) (e : Ext H H') : OutI h0 ob o H' := by
  obtain ⟨a, b, sv, c, d, f⟩ := x
  exact ⟨a, b.trans e, sv, e.get c, d.ext e, f⟩
theorem back_clash {base ob lb many : Nat} {h0 : Heap} {L : Lom} {pv sv : AVal} (hlb : lb < h0.length) (hb : base ≤ h0.length) (hg : h0[lb]? = some (lomB L pv sv)) (hP : Parts h0 pv L.ps) (hS : Rows encS h0 sv L.ss) (hc : chkM L = 0) (hok : LomOk L) (hm : many ≤ 10) :
    Back base ob (.fn 86 [] [.ptr (some ⟨ob, 0, 0⟩), .ptr (some ⟨lb, 0, 0⟩)]) (upto L.ss.length) many (clsP L) (OutI h0 ob) := by
  rintro H o sl l hbH hobH ⟨hh, xh, sv0, go, _, _⟩ hO hof hlen hsub
  have hin : ∀ i ∈ l, 0 ≤ i ∧ i < (L.ss.length : Int) := fun i hi => upto_mem.1 (hsub i hi)
  have gl := xh.get hg
  rw [lomB] at gl
  rw [outB] at go
  have hone := hO.one
  have hne : lb ≠ ob := by omega
  have xh2 : Ext h0 (H.set ob (outB sl)) := xh.set hh
  have gl2 : (H.set ob (outB sl))[lb]? = some (lomB L pv sv) := by rw [get_set_ne (fun e => hne e.symm)]; exact gl
  have hO2 : Own encI 3 0 (H.set ob (outB sl)) sl l := hO.setOff hof (by simp)
  have k4 := (chkM_ok hc).2.2.2.1
  have hsl := hok.2.2.1
  obtain ⟨w1, H1, e1, x1, hD⟩ := run_worked' (base := base) (h := H.set ob (outB sl)) (ov := sl) (o := l) (by rw [List.length_set]; exact hbH) (hP.ext xh2) (hS.ext xh2) ((hO2.rows (by omega)).ints (fun x hx => by have := hin x hx; omega)) hc (by omega) hin
  have hDL := deskL_of hc hok (by omega) hin
  have hl1 := x1.len
  rw [List.length_set] at hl1
  have ha := run_allF (base := base) (h := H1) (by omega)
  obtain ⟨w2, H2, e2, x2, z, rfl, hz, _⟩ := run_explained (base := base) (h := H1 ++ [⟨.cells [.fn 141 [] []] 141 false false, 0⟩]) (by simp; omega) (hD.ext (.app .refl)) hDL lets_all
  have xf : Ext (H.set ob (outB sl)) H2 := x1.trans ((Ext.app .refl).trans x2)
  have hend : KeepX ob H H2 ∧ OutI h0 ob (some l) H2 := by
    refine ⟨((KeepX.refl (H := H)).set).trans (.ofExt xf), hh, xh2.trans xf, sl, xf.get (by rw [List.getElem?_set_self hobH]), hO2.ext xf, hof⟩
  rw [outB] at e1
  have hob2 : base ≤ ob := by omega
  by_cases c2 : (expM L (deskN L l).1 (deskN L l).2 allF).1 = 0
  · have t2 : (((expM L (deskN L l).1 (deskN L l).2 allF).1 : Int) = 0) = True := eq_true (by omega)
    have r : clsP L l = true := decide_eq_true c2
    rw [r]
    refine ⟨H2, callL_raw func86 rfl (by kernel_rfl) ?_, hend⟩
    rw [outB] at gl2
    rw [lomB] at gl2
    have hsp := @Nat.succ_ne_zero; repeat' (first | simp (disch := first | exact dschE28 | fail) only [go_sem, ↓reduceIte, hsp, go, gl2, e1, ha, e2, t2] | refine WP_drw ?_ | refine cnd_intro (fun hsp => ?_) fun hsp => ?_)
  · have t2 : (((expM L (deskN L l).1 (deskN L l).2 allF).1 : Int) = 0) = False := eq_false (by omega)
    have r : clsP L l = false := decide_eq_false c2
    rw [r]
    refine ⟨H2, callL_raw func86 rfl (by kernel_rfl) ?_, hend⟩
    rw [outB] at gl2
    rw [lomB] at gl2
    have hsp := @Nat.succ_ne_zero; repeat' (first | simp (disch := first | exact dschE28 | fail) only [go_sem, ↓reduceIte, hsp, go, gl2, e1, ha, e2, t2] | refine WP_drw ?_ | refine cnd_intro (fun hsp => ?_) fun hsp => ?_)
set_option maxHeartbeats 2000000 in
theorem run_clash {base : Nat} {h : Heap} {v : AVal} {L : Lom} (hb : base ≤ h.length) (hL : LomAt h v L) (hok : LomOk L) :
    Ret prog raw base (.fn 24 [] []) [v] h (fun w H => Ext h H ∧ ∃ x, w = .tuple [x, .int .i64 (clsM L).2] ∧ Own encI 3 0 H x (clsM L).1) := by
  obtain ⟨pv, sv, rfl, hP, hS⟩ := id hL
  have hp1 := hP.one
  have hs1 := hS.one
  obtain ⟨w1, H1, e1, x1, y, rfl, ho, hd⟩ := run_told (base := base) (h := h ++ [⟨.cells [.int .i64 L.R, .int .i64 L.T, pv, sv] 25 false false, 0⟩]) (b := false) (by simp; omega) (hL.ext (.app .refl)) hok
  have xh := (Ext.app (t := [⟨.cells [.int .i64 L.R, .int .i64 L.T, pv, sv] 25 false false, 0⟩]) (Ext.refl (h := h))).trans x1
  have g0 : H1[h.length]? = some ⟨.cells [.int .i64 L.R, .int .i64 L.T, pv, sv] 25 false false, 0⟩ := x1.get (by simp)
  have hH1l := xh.len
  have lg0 := lt_of_get g0
  by_cases c1 : tolE L false = 0
  · have t1 : (tolE L false = 0) = True := eq_true c1
    have r : clsM L = ([], 6) := by unfold clsM; rw [if_pos c1]
    rw [r]
    refine ret_raw func24 rfl (by kernel_rfl) ?_
    have hsp := @Nat.succ_ne_zero; repeat' (first | simp (disch := first | exact dschE28 | fail) only [go_sem, ↓reduceIte, hsp, e1, t1] | refine WP_drw ?_ | refine cnd_intro (fun hsp => ?_) fun hsp => ?_)
    exact ⟨xh, _, rfl, Own.nil⟩
  · have t1 : (tolE L false = 0) = False := eq_false c1
    by_cases c2 : tolE L false = 7
    · rw [c2] at e1
      have hc : chkM L = 0 := by
        unfold tolE at c2
        split at c2
        · have := chkM_le (L := L); omega
        · rename_i q; exact Classical.not_not.1 q
      have k4 := (chkM_ok hc).2.2.2.1
      have r : clsM L = ((clsF L L.ss.length 0 none).getD [], 0) := by unfold clsM; rw [if_neg c1, if_pos c2]
      rw [r]
      have hlS : ∀ {a : ABlk}, lenOpA prog (H1 ++ [a]) 23 sv = some (.int .i64 (L.ss.length : Int)) := fun {a} => (hS.ext (xh.trans (.app .refl))).len Fc.el23
      have t7 : ((7 : Int) = 0) = False := eq_false (by omega)
      refine ret_raw func24 rfl (by kernel_rfl) ?_
      have hsp := @Nat.succ_ne_zero; repeat' (first | simp (disch := first | exact dschE28 | fail) only [go_sem, ↓reduceIte, hsp, e1, t7, eq_self, g0, hlS] | refine WP_drw ?_ | refine cnd_intro (fun hsp => ?_) fun hsp => ?_)
      refine WP_count [(7, 7), (22, 31)] 0 L.ss.length (Nat.zero_le _) (fun _ i fr h' => fr 22 = .int .i64 (i : Int) ∧ ∃ o, OutI H1 H1.length o h' ∧ clsF L L.ss.length 0 none = clsF L (L.ss.length - i) i o) ?_ ?_ ?_
      · exact ⟨by (simp (disch := first | exact dschE28 | fail) only [go_sem, ↓reduceIte, Int.natCast_zero]; first | done | rfl), none, ⟨Nat.le_refl _, .app .refl, .slice none 0 0, by simp [outB], Own.nil, fun r n c q => by cases q⟩, rfl⟩
      · rintro i fr H hi0 hi hA ⟨r22, o, hOI, hcf⟩
        have p1 := hA 1 rfl
        have p2 := hA 2 rfl
        have p3 := hA 3 rfl
        have p6 := hA 6 rfl
        have p21 := hA 21 rfl
        try simp (disch := first | exact dschE28 | fail) only [go_sem, ↓reduceIte] at p1 p2 p3 p6 p21
        have hlt : ((i : Int) < (L.ss.length : Int)) = True := eq_true (by omega)
        have xH := hOI.2.1
        have hHl := xH.len
        have hobl : H1.length < H.length := by obtain ⟨_, _, s', q, _⟩ := hOI; exact lt_of_get q
        have g1 := xH.get g0
        obtain ⟨w2, H2, e2, x2, o2⟩ := run_whole (base := base) (h := H) (R := L.R) (T := L.T) (pv := pv) (by omega) hp1 (hS.ext (xh.trans xH)) (by omega)
        have hul := upto_len (n := L.ss.length)
        have hl2 := x2.len
        have hbk := back_clash (base := base) (ob := H1.length) (lb := h.length) (many := i + 1) (h0 := H1) (by omega) (by omega) g0 (hP.ext xh) (hS.ext xh) hc hok (by omega)
        obtain ⟨v3, H3, e3, rfl, k3, i3⟩ := run_lists (base := base) (h := H2) (ofv := w2) (o := o) (by omega) (by omega) (⟨rfl, rfl, rfl⟩) hbk (fun o H H' e x => x.ext e) (by omega) (o2.off (fun j hj => by simp at hj; omega)) (by omega) ((o2.rows (by omega)).ints (fun x hx => by have := upto_mem.1 hx; omega)) (hOI.ext x2)
        have hii : ((i : Int) + 1) = ((i + 1 : Nat) : Int) := by omega
        have hst : clsF L (L.ss.length - i) i o = if (visF (clsP L) (lexC (upto L.ss.length) (i + 1) [] 0) o).1 = true then (visF (clsP L) (lexC (upto L.ss.length) (i + 1) [] 0) o).2 else clsF L (L.ss.length - (i + 1)) (i + 1) (visF (clsP L) (lexC (upto L.ss.length) (i + 1) [] 0) o).2 := by
          rw [show L.ss.length - i = (L.ss.length - (i + 1)) + 1 by omega, clsF]
        obtain ⟨res, eres⟩ : ∃ res, res = visF (clsP L) (lexC (upto L.ss.length) (i + 1) [] 0) o := ⟨_, rfl⟩
        rw [← eres] at e3 i3 hst
        cases hr : res.1 with
        | true =>
          rw [hr, if_pos rfl] at hst
          rw [hr] at e3
          obtain ⟨q1, q2, s', q3, q4, q5⟩ := i3
          rw [outB] at q3
          have hsp := @Nat.succ_ne_zero; repeat' (first | simp (disch := first | exact dschE28 | fail) only [go_sem, ↓reduceIte, hsp, r22, p1, p2, p3, p6, p21, hlt, g1, e2, hii, e3, q3] | refine WP_drw ?_ | refine cnd_intro (fun hsp => ?_) fun hsp => ?_)
          refine ⟨xh.trans q2, s', rfl, ?_⟩
          rw [hcf, hst]
          exact q4
        | false =>
          rw [hr, if_neg (by simp)] at hst
          rw [hr] at e3
          have hsp := @Nat.succ_ne_zero; repeat' (first | simp (disch := first | exact dschE28 | fail) only [go_sem, ↓reduceIte, hsp, r22, p1, p2, p3, p6, p21, hlt, g1, e2, hii, e3] | refine WP_drw ?_ | refine cnd_intro (fun hsp => ?_) fun hsp => ?_)
          exact ⟨by (repeat first | exact Agree.refl | assumption | refine Agree.put rfl ?_ | refine Agree.put0 ?_ | refine Agree.sub rfl (by assumption) ?_), res.2, i3, by rw [hcf, hst]⟩
      · rintro fr H hA ⟨r22, o, hOI, hcf⟩
        have p1 := hA 1 rfl
        have p2 := hA 2 rfl
        have p3 := hA 3 rfl
        have p6 := hA 6 rfl
        have p21 := hA 21 rfl
        try simp (disch := first | exact dschE28 | fail) only [go_sem, ↓reduceIte] at p1 p2 p3 p6 p21
        have hlt : ((L.ss.length : Int) < (L.ss.length : Int)) = False := eq_false (by omega)
        obtain ⟨q1, q2, s', q3, q4, q5⟩ := hOI
        rw [outB] at q3
        have hsp := @Nat.succ_ne_zero; repeat' (first | simp (disch := first | exact dschE28 | fail) only [go_sem, ↓reduceIte, hsp, r22, p1, p2, p3, p6, p21, hlt, q3] | refine WP_drw ?_ | refine cnd_intro (fun hsp => ?_) fun hsp => ?_)
        refine ⟨xh.trans q2, s', rfl, ?_⟩
        rw [hcf, Nat.sub_self]
        exact q4
    · have t2 : (tolE L false = 7) = False := eq_false c2
      have r : clsM L = ([], tolE L false) := by unfold clsM; rw [if_neg c1, if_neg c2]
      rw [r]
      refine ret_raw func24 rfl (by kernel_rfl) ?_
      have hsp := @Nat.succ_ne_zero; repeat' (first | simp (disch := first | exact dschE28 | fail) only [go_sem, ↓reduceIte, hsp, e1, t1, t2] | refine WP_drw ?_ | refine cnd_intro (fun hsp => ?_) fun hsp => ?_)
      exact ⟨xh, _, rfl, Own.nil⟩
end Go.AM
/-
  Contracts: as many sights as can be of which any two are apart (Packed).
-/
namespace Go.AM
open Go.Proofs.Tryz
theorem dschE29 {p : Prop} (h : p := by first | exact Nat.ne_of_beq_eq_false rfl | assumption | (apply asOne; (first | exact One.int | exact One.bool | assumption | exact Ints.one (by assumption) | exact Rows.one (by assumption) | exact Own.one (by assumption) | exact One.lit ⟨rfl, rfl, rfl⟩)) | (apply asInts; (repeat first | assumption | exact ints_nil | apply Ints.app); done) | (apply asRows; (repeat first | assumption | exact Rows.nil | apply Rows.app); done) | (apply asScal; (first | apply allS1 | apply allS2 | apply allS3 | apply allS4) <;> (first | exact One.int | exact One.bool | assumption | exact Ints.one (by assumption) | exact Rows.one (by assumption) | exact Own.one (by assumption) | exact One.lit ⟨rfl, rfl, rfl⟩)) | exact litT rfl | exact litF rfl | omega | (simp only [List.length_append, List.length_cons, List.length_nil, List.length_set, List.length_reverse]; first | done | omega) | fail) : p := h
attribute [-go_sem] put_ne put_same
attribute [local go_sem ↓] put_if
theorem run_least {base : Nat} {h : Heap} {v : AVal} {l : List Int} {n : Int} (hI : Ints h v l) : callL prog raw base (.fn 94 [] []) [.int .i64 n, v] h = some (.int .i64 (l.foldl min n), h) := by
  have hl := hI.1.1
  refine callL_run func94 rfl rfl ?_
  have hsp := @Nat.succ_ne_zero; repeat' (first | simp (disch := first | exact dschE29 | fail) only [go_sem, ↓reduceIte, hsp] | refine WP_drw ?_ | refine cnd_intro (fun hsp => ?_) fun hsp => ?_)
  refine WP_count [(0, 0), (6, 6), (9, 16)] 0 l.length (Nat.zero_le _) (fun _ i fr h' => fr 9 = .int .i64 (i : Int) ∧ fr 0 = .int .i64 ((l.take i).foldl min n) ∧ h' = h) ?_ ?_ ?_
  · exact ⟨by (simp (disch := first | exact dschE29 | fail) only [go_sem, ↓reduceIte, Int.natCast_zero]; first | done | rfl), by simp (disch := first | exact dschE29 | fail) only [go_sem, ↓reduceIte]; rfl, rfl⟩
  · rintro i fr H hi0 hi hA ⟨r9, r0, rfl⟩
    have p4 := hA 4 rfl
    have p7 := hA 7 rfl
    have p8 := hA 8 rfl
    try simp (disch := first | exact dschE29 | fail) only [go_sem, ↓reduceIte] at p4 p7 p8
    have hlt : ((i : Int) < (l.length : Int)) = True := eq_true (by omega)
    have hl0 := loadI hI hi
    have ha0 := adrI (i := (i : Int)) (by omega) hI (by omega)
    rw [Int.toNat_natCast] at ha0
    have hsp := @Nat.succ_ne_zero; repeat' (first | simp (disch := first | exact dschE29 | fail) only [go_sem, ↓reduceIte, hsp, r9, r0, p4, p7, p8, hlt, ha0, hl0] | refine WP_drw ?_ | refine cnd_intro (fun hsp => ?_) fun hsp => ?_)
    refine ⟨by (repeat first | exact Agree.refl | assumption | refine Agree.put rfl ?_ | refine Agree.put0 ?_ | refine Agree.sub rfl (by assumption) ?_), by omega, ?_⟩
    rw [List.take_add_one, getD_some (d := 0) hi, List.foldl_append]
    rfl
  · rintro fr H hA ⟨r9, r0, rfl⟩
    have p4 := hA 4 rfl
    have p7 := hA 7 rfl
    have p8 := hA 8 rfl
    try simp (disch := first | exact dschE29 | fail) only [go_sem, ↓reduceIte] at p4 p7 p8
    have hlt : ((l.length : Int) < (l.length : Int)) = False := eq_false (by omega)
    rw [List.take_length] at r0
    have hsp := @Nat.succ_ne_zero; repeat' (first | simp (disch := first | exact dschE29 | fail) only [go_sem, ↓reduceIte, hsp, r9, r0, p4, p7, p8, hlt] | refine WP_drw ?_ | refine cnd_intro (fun hsp => ?_) fun hsp => ?_)
    exact fI rfl
def matB (m : List Bool) : ABlk := ⟨.cells (m.map .bool) 160 false false, 0⟩
theorem matA {id : Nat} {a b : Int} (ha : 0 ≤ a ∧ a < 10) (hb : 0 ≤ b ∧ b < 10) : indexAddrA prog 160 (.ptr (some ⟨id, 0, 0⟩)) (.int .i64 a) = some (.ptr (some ⟨id, 0, a.toNat * 10⟩)) ∧
    indexAddrA prog 159 (.ptr (some ⟨id, 0, a.toNat * 10⟩)) (.int .i64 b) = some (.ptr (some ⟨id, 0, a.toNat * 10 + b.toNat⟩)) := by
  constructor
  · rw [adr_arr Fc.ar160 ha.1 (by omega), Nat.zero_add]
  · rw [adr_arr Fc.ar159 hb.1 (by omega), Nat.mul_one]
theorem matL {m : List Bool} {i : Nat} (hm : m.length = 100) (hi : i < 100) : ldB (some (false, 1)) (some (matB m)) 0 i = some (.bool (m.getD i false)) := by
  unfold matB
  rw [ldB_cell, List.getElem?_map, getD_some (d := false) (by omega)]
  rfl
theorem matS {m : List Bool} {base id i : Nat} {b : Bool} {K : ABlk → Heap} (hb : base ≤ id) (hm : m.length = 100) (hi : i < 100) : stQ base id (some (matB m)) 0 i [.bool b] K = some (K (matB (m.set i b))) := by
  unfold matB
  rw [stQ_own hb (by simp only [List.length_map, List.length_cons, List.length_nil]; omega) (by simp [AVal.scalar])]
  simp only [splice, List.map_set]
def mtB (m : List Bool) (a b : Int) : Bool := decide (a = b) || m.getD (a.toNat * 10 + b.toNat) false
theorem run_pk3 {base aid mid : Nat} {H : Heap} {m : List Bool} {a b : Int} (ga : H[aid]? = some (intB a)) (gm : H[mid]? = some (matB m)) (hm : m.length = 100) (ha : 0 ≤ a ∧ a < 10) (hb : 0 ≤ b ∧ b < 10) :
    callL prog raw base (.fn 98 [] [.ptr (some ⟨aid, 0, 0⟩), .ptr (some ⟨mid, 0, 0⟩)]) [.int .i64 b] H = some (.bool (mtB m a b), H) := by
  rw [intB] at ga
  have l1 := lt_of_get ga
  have l2 := lt_of_get gm
  obtain ⟨m1, m2⟩ := matA (id := mid) ha hb
  have m3 := matL (i := a.toNat * 10 + b.toNat) hm (by omega)
  rw [← gm] at m3
  refine callL_run func98 rfl rfl ?_
  by_cases c : a = b
  · have t1 : (a = b) = True := eq_true c
    have hsp := @Nat.succ_ne_zero; repeat' (first | simp (disch := first | exact dschE29 | fail) only [go_sem, ↓reduceIte, hsp, ga, t1] | refine WP_drw ?_ | refine cnd_intro (fun hsp => ?_) fun hsp => ?_)
    refine fB ?_
    unfold mtB
    rw [decide_eq_true c]; rfl
  · have t1 : (a = b) = False := eq_false c
    have hsp := @Nat.succ_ne_zero; repeat' (first | simp (disch := first | exact dschE29 | fail) only [go_sem, ↓reduceIte, hsp, ga, t1, m1, m2, m3] | refine WP_drw ?_ | refine cnd_intro (fun hsp => ?_) fun hsp => ?_)
    refine fB ?_
    unfold mtB
    rw [decide_eq_false c]; rfl
theorem run_pk2 {base sid mid : Nat} {H : Heap} {sv : AVal} {m : List Bool} {l : List Int} {a : Int} (gs : H[sid]? = some (outB sv)) (hI : Ints H sv l) (gm : H[mid]? = some (matB m)) (hm : m.length = 100) (ha : 0 ≤ a ∧ a < 10) (hl : ∀ b ∈ l, 0 ≤ b ∧ b < 10) :
    callL prog raw base (.fn 97 [] [.ptr (some ⟨sid, 0, 0⟩), .ptr (some ⟨mid, 0, 0⟩)]) [.int .i64 a] H = some (.bool (l.all fun b => mtB m a b), H) := by
  rw [outB] at gs
  have l1 := lt_of_get gs
  have hone := hI.one
  have he : ∀ {base : Nat}, callL prog raw base (.fn 96 [] []) [sv, .fn 98 [] [.ptr (some ⟨H.length, 0, 0⟩), .ptr (some ⟨mid, 0, 0⟩)]] (H ++ [intB a]) = some (.bool (l.all fun b => mtB m a b), H ++ [intB a]) := fun {base} => every_I _ hI.app (fun base T x hx => run_pk3 (get_app (get_eq rfl)) (get_app (get_app gm)) hm ha (hl x hx)) ⟨rfl, rfl, rfl⟩
  rw [intB] at he
  refine callL_run func97 rfl rfl ?_
  have hsp := @Nat.succ_ne_zero; repeat' (first | simp (disch := first | exact dschE29 | fail) only [go_sem, ↓reduceIte, hsp, gs, he] | refine WP_drw ?_ | refine cnd_intro (fun hsp => ?_) fun hsp => ?_)
  exact fB rfl
def mtP (m : List Bool) (l : List Int) : Bool := l.all fun a => l.all fun b => mtB m a b
theorem back_packed {base ob mid many : Nat} {h0 : Heap} {m : List Bool} {of : List Int} (hmid : mid < h0.length) (hb : base ≤ h0.length) (hg : h0[mid]? = some (matB m)) (hm : m.length = 100) (hof : ∀ x ∈ of, 0 ≤ x ∧ x < 10) (hmy : many ≤ 10) :
    Back base ob (.fn 95 [] [.ptr (some ⟨ob, 0, 0⟩), .ptr (some ⟨mid, 0, 0⟩)]) of many (mtP m) (OutI h0 ob) := by
  rintro H o sl l hbH hobH ⟨hh, xh, sv0, go, _, _⟩ hO hoff hlen hsub
  have hin : ∀ i ∈ l, 0 ≤ i ∧ i < 10 := fun i hi => hof i (hsub i hi)
  have gm := xh.get hg
  rw [outB] at go
  have hone := hO.one
  have hne : mid ≠ ob := by omega
  obtain ⟨H2, eH2⟩ : ∃ H2 : Heap, H2 = H.set ob (outB sl) ++ [outB sl] := ⟨_, rfl⟩
  have hO2 : Own encI 3 0 H2 sl l := by rw [eH2]; exact (hO.setOff hoff (by simp)).app
  have hI2 := (hO2.rows (by omega)).ints (fun x hx => by have := hin x hx; omega)
  have gm2 : H2[mid]? = some (matB m) := by rw [eH2]; exact get_app (by rw [get_set_ne (fun e => hne e.symm)]; exact gm)
  have gs2 : H2[H.length]? = some (outB sl) := by rw [eH2]; exact get_eq (by simp)
  have he : ∀ {base : Nat}, callL prog raw base (.fn 96 [] []) [sl, .fn 97 [] [.ptr (some ⟨H.length, 0, 0⟩), .ptr (some ⟨mid, 0, 0⟩)]] H2 = some (.bool (mtP m l), H2) := fun {base} => every_I _ hI2 (fun base T x hx => run_pk2 (get_app gs2) hI2.app (get_app gm2) hm (hin x hx) hin) ⟨rfl, rfl, rfl⟩
  have hob2 : base ≤ ob := by omega
  have hend : KeepX ob H H2 ∧ OutI h0 ob (some l) H2 := by
    refine ⟨by rw [eH2]; exact ((KeepX.refl (H := H)).set).trans (.ofExt (.app .refl)), hh, by rw [eH2]; exact (xh.set hh).trans (.app .refl), sl, by rw [eH2]; exact get_app (by rw [List.getElem?_set_self hobH]), hO2, hoff⟩
  refine ⟨H2, callL_raw func95 rfl (by kernel_rfl) ?_, hend⟩
  rw [eH2, outB] at he
  have hsp := @Nat.succ_ne_zero; repeat' (first | simp (disch := first | exact dschE29 | fail) only [go_sem, ↓reduceIte, hsp, go, he] | refine WP_drw ?_ | refine cnd_intro (fun hsp => ?_) fun hsp => ?_)
  rw [eH2, outB]
theorem all_congr' {α : Type} {p q : α → Bool} : ∀ {l : List α}, (∀ x ∈ l, p x = q x) → l.all p = l.all q
  | [], _ => rfl
  | x :: l, h => by rw [List.all_cons, List.all_cons, h x (by simp), all_congr' fun y hy => h y (List.mem_cons_of_mem _ hy)]
/-- Two sights, by their places among the bad ones. -/
def valP (L : Lom) (bad : List Int) (ms : List (List Bool)) (i k : Nat) : Bool := decide (i ≠ k) && aprM L bad ms (2 ^ i ||| 2 ^ k)
def pckP (L : Lom) (l : List Int) : Bool := l.all fun a => l.all fun b => decide (a = b) || aprM L (deskA L).1 (deskA L).2 (2 ^ ixB L a ||| 2 ^ ixB L b)
def pckF (p : List Int → Bool) (of : List Int) : Nat → Option (List Int) → List Int
  | 0, _ => []
  | m + 1, o => if (visF p (lexC of (m + 1) [] 0) o).1 = true then (visF p (lexC of (m + 1) [] 0) o).2.getD [] else pckF p of m (visF p (lexC of (m + 1) [] 0) o).2
/-- fault.Packed. -/
def pckM (L : Lom) : List Int × Int := if tolE L false ≠ 0 then ([], tolE L false) else (pckF (pckP L) (deskA L).1 (min (deskA L).1.length L.ps.length) none, 0)
theorem lexC_sub {of : List Int} : ∀ {d : Nat} {l : List Int} {a : Nat} {x : List Int}, x ∈ lexC of d l a → ∀ y ∈ x, y ∈ l ∨ y ∈ of
  | 0, l, a, x, h, y, hy => by simp [lexC] at h; subst h; exact .inl hy
  | d + 1, l, a, x, h, y, hy => by
    simp only [lexC, List.mem_flatMap, List.mem_range] at h
    obtain ⟨q, hq, hx⟩ := h
    rcases lexC_sub hx y hy with e | e
    · rcases List.mem_append.1 e with e | e
      · exact .inl e
      · simp only [List.mem_singleton] at e; rw [e]; exact .inr (getD_mem (by omega))
    · exact .inr e
theorem visF_congr {p q : List Int → Bool} : ∀ {a : List (List Int)} {o : Option (List Int)}, (∀ x ∈ a, p x = q x) → visF p a o = visF q a o
  | [], o, _ => rfl
  | x :: a, o, h => by
    simp only [visF]
    rw [h x (by simp), visF_congr (fun y hy => h y (List.mem_cons_of_mem _ hy))]
theorem upto_nodup (n : Nat) : (upto n).Nodup := by
  unfold upto lst
  rw [List.Nodup, List.pairwise_map]
  exact List.nodup_range.imp fun h e => h (Int.ofNat.inj e)
theorem deskA_nodup {L : Lom} : (deskA L).1.Nodup := by rw [deskA_bad]; exact (upto_nodup _).filter _
/-- What the matrix says of pairs ahead of a place. -/
def MatOk (L : Lom) (bad : List Int) (ms : List (List Bool)) (i k : Nat) (m : List Bool) : Prop := m.length = 100 ∧ ∀ i' k', i' < bad.length → k' < bad.length → (i' < i ∨ (i' = i ∧ k' < k)) → m.getD ((bad.getD i' 0).toNat * 10 + (bad.getD k' 0).toNat) false = valP L bad ms i' k'
theorem MatOk.next {L : Lom} {bad : List Int} {ms : List (List Bool)} {i k : Nat} {m : List Bool} (x : MatOk L bad ms i k m) (hn : bad.Nodup) (hb : ∀ x ∈ bad, 0 ≤ x ∧ x < 10) (hi : i < bad.length) (hk : k < bad.length) :
    MatOk L bad ms i (k + 1) (m.set ((bad.getD i 0).toNat * 10 + (bad.getD k 0).toNat) (valP L bad ms i k)) := by
  refine ⟨by rw [List.length_set]; exact x.1, fun i' k' hi' hk' h => ?_⟩
  have b1 := hb _ (getD_mem hi)
  have b2 := hb _ (getD_mem hk)
  have b3 := hb _ (getD_mem hi')
  have b4 := hb _ (getD_mem hk')
  have inj : ∀ u v, u < bad.length → v < bad.length → bad.getD u 0 = bad.getD v 0 → u = v := fun u v hu hv e => by
    rw [List.getD_eq_getElem?_getD, List.getD_eq_getElem?_getD, List.getElem?_eq_getElem hu, List.getElem?_eq_getElem hv] at e
    exact (List.getElem_inj hn).1 e
  rw [List.getD_eq_getElem?_getD, List.getElem?_set]
  by_cases e : (bad.getD i 0).toNat * 10 + (bad.getD k 0).toNat = (bad.getD i' 0).toNat * 10 + (bad.getD k' 0).toNat
  · have e1 : i = i' := inj _ _ hi hi' (by omega)
    have e2 : k = k' := inj _ _ hk hk' (by omega)
    subst e1 e2
    rw [if_pos rfl, if_pos (by have := x.1; omega)]
    rfl
  · rw [if_neg e, ← List.getD_eq_getElem?_getD]
    refine x.2 i' k' hi' hk' ?_
    rcases h with h | ⟨h1, h2⟩
    · exact .inl h
    · refine .inr ⟨h1, ?_⟩
      by_cases e2 : k' = k
      · subst h1 e2; exact absurd rfl e
      · omega
theorem mtP_eq {L : Lom} {m : List Bool} (hm : MatOk L (deskA L).1 (deskA L).2 (deskA L).1.length 0 m) {l : List Int} (hl : ∀ x ∈ l, x ∈ (deskA L).1) : mtP m l = pckP L l := by
  have key : ∀ a ∈ l, ∀ b ∈ l, mtB m a b = (decide (a = b) || aprM L (deskA L).1 (deskA L).2 (2 ^ ixB L a ||| 2 ^ ixB L b)) := by
    intro a ha b hb
    have h1 := List.idxOf_lt_length_of_mem (hl a ha)
    have h2 := List.idxOf_lt_length_of_mem (hl b hb)
    have g1 : (deskA L).1.getD (ixB L a) 0 = a := by unfold ixB; rw [List.getD_eq_getElem?_getD, List.getElem?_eq_getElem h1]; exact List.getElem_idxOf h1
    have g2 : (deskA L).1.getD (ixB L b) 0 = b := by unfold ixB; rw [List.getD_eq_getElem?_getD, List.getElem?_eq_getElem h2]; exact List.getElem_idxOf h2
    have q := hm.2 (ixB L a) (ixB L b) h1 h2 (.inl h1)
    rw [g1, g2] at q
    unfold mtB
    rw [q]
    by_cases e : a = b
    · rw [decide_eq_true e]; rfl
    · have hne : ixB L a ≠ ixB L b := fun q => e (by rw [← g1, ← g2, q])
      rw [decide_eq_false e]
      unfold valP
      rw [decide_eq_true hne]
      rfl
  unfold mtP pckP
  exact all_congr' fun a ha => all_congr' fun b hb => key a ha b hb
end Go.AM
/-
  Contracts: as many sights as can be of which any two are apart (Packed, the walk).
-/
namespace Go.AM
open Go.Proofs.Tryz
theorem dschE30 {p : Prop} (h : p := by first | exact Nat.ne_of_beq_eq_false rfl | assumption | (apply asOne; (first | exact One.int | exact One.bool | assumption | exact Ints.one (by assumption) | exact Rows.one (by assumption) | exact Own.one (by assumption) | exact One.lit ⟨rfl, rfl, rfl⟩)) | (apply asInts; (repeat first | assumption | exact ints_nil | apply Ints.app); done) | (apply asRows; (repeat first | assumption | exact Rows.nil | apply Rows.app); done) | (apply asScal; (first | apply allS1 | apply allS2 | apply allS3 | apply allS4) <;> (first | exact One.int | exact One.bool | assumption | exact Ints.one (by assumption) | exact Rows.one (by assumption) | exact Own.one (by assumption) | exact One.lit ⟨rfl, rfl, rfl⟩)) | exact litT rfl | exact litF rfl | omega | (simp only [List.length_append, List.length_cons, List.length_nil, List.length_set, List.length_reverse]; first | done | omega) | fail) : p := h
attribute [-go_sem] put_ne put_same
attribute [local go_sem ↓] put_if
theorem Rows.lowid2 {α : Type} {E : Enc α} {h : Heap} {v : AVal} {l : List α} (hR : Rows E h v l) : ∀ r n c, v = .slice (some r) n c → r.id < h.length := by
  intro r n c e
  rcases hR.2 with ⟨rfl, _⟩ | ⟨rfl, _⟩ | ⟨r', k, c', e', row, ro, rfl, h2, _⟩
  · cases e
  · cases e
  · cases e; exact lt_of_get h2
theorem mat0 : repCells [.bool false] 100 = (List.replicate 100 false).map AVal.bool := by kernel_rfl
set_option maxHeartbeats 2000000 in
theorem run_packed {base : Nat} {h : Heap} {v : AVal} {L : Lom} (hb : base ≤ h.length) (hL : LomAt h v L) (hok : LomOk L) :
    Ret prog raw base (.fn 32 [] []) [v] h (fun w H => Ext h H ∧ ∃ x, w = .tuple [x, .int .i64 (pckM L).2] ∧ Own encI 3 0 H x (pckM L).1) := by
  obtain ⟨pv, sv, rfl, hP, hS⟩ := id hL
  have hp1 := hP.one
  have hs1 := hS.one
  obtain ⟨w1, H1, e1, x1, y, rfl, ho, hd⟩ := run_told (base := base) (h := h ++ [⟨.cells [.int .i64 L.R, .int .i64 L.T, pv, sv] 25 false false, 0⟩]) (b := false) (by simp; omega) (hL.ext (.app .refl)) hok
  have xh := (Ext.app (t := [⟨.cells [.int .i64 L.R, .int .i64 L.T, pv, sv] 25 false false, 0⟩]) (Ext.refl (h := h))).trans x1
  have g0 : H1[h.length]? = some ⟨.cells [.int .i64 L.R, .int .i64 L.T, pv, sv] 25 false false, 0⟩ := x1.get (by simp)
  have hH1l := xh.len
  by_cases c1 : tolE L false = 0
  · rw [c1] at e1
    have hD := hd c1
    have hc := (tolE_ok c1).1
    have hDL := deskL_A hc hok
    obtain ⟨k1, k2, k3, k4, k5, k6⟩ := chkM_ok hc
    obtain ⟨did, mid, pv', sv', bv, rfl, g1, g2, g3, g4, g5, g6, g7⟩ := id hD
    rw [deskB] at g1
    have lg1 := lt_of_get g1
    have lg0 := lt_of_get g0
    obtain ⟨bad, ebad⟩ : ∃ bad, bad = (deskA L).1 := ⟨_, rfl⟩
    obtain ⟨ms, ems⟩ : ∃ ms, ms = (deskA L).2 := ⟨_, rfl⟩
    have hnd : bad.Nodup := by rw [ebad]; exact deskA_nodup
    have hbr : ∀ x ∈ bad, 0 ≤ x ∧ x < 10 := fun x hx => by have := hDL.2.2.1 x (by rw [← ebad]; exact hx); omega
    rw [← ebad] at g4 hD hDL
    rw [← ems] at hD
    have hbl := hDL.2.1
    have r : pckM L = (pckF (pckP L) bad (min bad.length L.ps.length) none, 0) := by unfold pckM; rw [if_neg (by simp [c1]), ebad]
    rw [r]
    have hlB : ∀ {a : ABlk}, lenOpA prog (H1 ++ [a]) 36 bv = some (.int .i64 (bad.length : Int)) := fun {a} => lenI g4.app
    refine ret_raw func32 rfl (by kernel_rfl) ?_
    have hsp := @Nat.succ_ne_zero; repeat' (first | simp (disch := first | exact dschE30 | fail) only [go_sem, ↓reduceIte, hsp, e1, eq_self, g1, hlB, mat0] | refine WP_drw ?_ | refine cnd_intro (fun hsp => ?_) fun hsp => ?_)
    refine WP_count [(7, 10), (26, 58)] 0 bad.length (Nat.zero_le _) (fun _ i fr h' => fr 26 = .int .i64 (i : Int) ∧ ∃ m, h' = H1 ++ [matB m] ∧ MatOk L bad ms i 0 m) ?_ ?_ ?_
    · exact ⟨by (simp (disch := first | exact dschE30 | fail) only [go_sem, ↓reduceIte, Int.natCast_zero]; first | done | rfl), List.replicate 100 false, rfl, by simp, fun i' k' _ _ q => by omega⟩
    · rintro i fr H hi0 hi hA ⟨r26, m, rfl, hM⟩
      have p1 := hA 1 rfl
      have p2 := hA 2 rfl
      have p3 := hA 3 rfl
      have p4 := hA 4 rfl
      have p6 := hA 6 rfl
      have p24 := hA 24 rfl
      have p25 := hA 25 rfl
      try simp (disch := first | exact dschE30 | fail) only [go_sem, ↓reduceIte] at p1 p2 p3 p4 p6 p24 p25
      have hlt : ((i : Int) < (bad.length : Int)) = True := eq_true (by omega)
      have hB1 := g4.app (g := [matB m])
      have hl0 := loadI hB1 hi
      have ha0 := adrI (i := (i : Int)) (by omega) hB1 (by omega)
      rw [Int.toNat_natCast] at ha0
      have hsp := @Nat.succ_ne_zero; repeat' (first | simp (disch := first | exact dschE30 | fail) only [go_sem, ↓reduceIte, hsp, r26, p1, p2, p3, p4, p6, p24, p25, hlt, ha0, hl0, g1, hlB] | refine WP_drw ?_ | refine cnd_intro (fun hsp => ?_) fun hsp => ?_)
      refine WP_count [(9, 10), (36, 57)] 0 bad.length (Nat.zero_le _) (fun _ k fr h' => fr 36 = .int .i64 (k : Int) ∧ ∃ m, h' = H1 ++ [matB m] ∧ MatOk L bad ms i k m) ?_ ?_ ?_
      · exact ⟨by (simp (disch := first | exact dschE30 | fail) only [go_sem, ↓reduceIte, Int.natCast_zero]; first | done | rfl), m, rfl, hM⟩
      · rintro k fr2 H2 hk0 hk hA2 ⟨r36, m2, rfl, hM2⟩
        have u1 := hA2 1 rfl
        have u2 := hA2 2 rfl
        have u3 := hA2 3 rfl
        have u4 := hA2 4 rfl
        have u6 := hA2 6 rfl
        have u7 := hA2 7 rfl
        have u8 := hA2 8 rfl
        have u24 := hA2 24 rfl
        have u25 := hA2 25 rfl
        have u26 := hA2 26 rfl
        have u34 := hA2 34 rfl
        have u35 := hA2 35 rfl
        try simp (disch := first | exact dschE30 | fail) only [go_sem, ↓reduceIte, p1, p2, p3, p4, p6, p24, p25] at u1 u2 u3 u4 u6 u7 u8 u24 u25 u26 u34 u35
        have hlt2 : ((k : Int) < (bad.length : Int)) = True := eq_true (by omega)
        have hB2 := g4.app (g := [matB m2])
        have hl2 := loadI hB2 hk
        have ha2 := adrI (i := (k : Int)) (by omega) hB2 (by omega)
        rw [Int.toNat_natCast] at ha2
        have bi := hbr _ (getD_mem hi)
        have bk := hbr _ (getD_mem hk)
        obtain ⟨q1, q2⟩ := matA (id := H1.length) bi bk
        have q3 : ∀ {Z : ABlk → Heap} {b : Bool}, stQ base H1.length (some (matB m2)) 0 ((bad.getD i 0).toNat * 10 + (bad.getD k 0).toNat) [.bool b] Z = some (Z (matB (m2.set ((bad.getD i 0).toNat * 10 + (bad.getD k 0).toNat) b))) := fun {Z b} => matS (by omega) hM2.1 (by omega)
        have u26 := hA2 26 rfl; simp (disch := first | exact dschE30 | fail) only [go_sem, ↓reduceIte, r26] at u26
        by_cases cik : i = k
        · have t1 : ((i : Int) = (k : Int)) = True := eq_true (by omega)
          have ev : valP L bad ms i k = false := by unfold valP; rw [decide_eq_false (by simpa using cik)]; rfl
          have hN := hM2.next hnd hbr hi hk
          rw [ev] at hN
          have hsp := @Nat.succ_ne_zero; repeat' (first | simp (disch := first | exact dschE30 | fail) only [go_sem, ↓reduceIte, hsp, r36, u1, u2, u3, u4, u6, u7, u8, u24, u25, u26, u34, u35, hlt2, ha2, hl2, t1, q1, q2, q3] | refine WP_drw ?_ | refine cnd_intro (fun hsp => ?_) fun hsp => ?_)
          exact ⟨by (repeat first | exact Agree.refl | assumption | refine Agree.put rfl ?_ | refine Agree.put0 ?_ | refine Agree.sub rfl (by assumption) ?_), by first | rfl | omega, _, rfl, hN⟩
        · have t1 : ((i : Int) = (k : Int)) = False := eq_false (by omega)
          have p1 : 2 ^ i ≤ 2 ^ 10 := Nat.pow_le_pow_right (by decide) (by omega)
          have p2 : 2 ^ k ≤ 2 ^ 10 := Nat.pow_le_pow_right (by decide) (by omega)
          have s1 := shlN (t := 3) (k := i) (by omega)
          have s2 := shlN (t := 3) (k := k) (by omega)
          have s3 := orN (t := 3) (a := 2 ^ i) (b := 2 ^ k) (by omega) (by omega)
          have s4 := fun base => run_apart (base := base) (h := H1 ++ [matB m2]) (two := 2 ^ i ||| 2 ^ k) (hD.ext (.app .refl)) hDL (Nat.or_lt_two_pow (by omega) (by omega))
          have ev : valP L bad ms i k = aprM L bad ms (2 ^ i ||| 2 ^ k) := by unfold valP; rw [decide_eq_true (by simpa using cik)]; rfl
          have hN := hM2.next hnd hbr hi hk
          rw [ev] at hN
          have hsp := @Nat.succ_ne_zero; repeat' (first | simp (disch := first | exact dschE30 | fail) only [go_sem, ↓reduceIte, hsp, r36, u1, u2, u3, u4, u6, u7, u8, u24, u25, u26, u34, u35, hlt2, ha2, hl2, t1, s1, s2, s3, s4, q1, q2, q3] | refine WP_drw ?_ | refine cnd_intro (fun hsp => ?_) fun hsp => ?_)
          exact ⟨by (repeat first | exact Agree.refl | assumption | refine Agree.put rfl ?_ | refine Agree.put0 ?_ | refine Agree.sub rfl (by assumption) ?_), by first | rfl | omega, _, rfl, hN⟩
      · rintro fr2 H2 hA2 ⟨r36, m2, rfl, hM2⟩
        have u1 := hA2 1 rfl
        have u2 := hA2 2 rfl
        have u3 := hA2 3 rfl
        have u4 := hA2 4 rfl
        have u6 := hA2 6 rfl
        have u7 := hA2 7 rfl
        have u8 := hA2 8 rfl
        have u24 := hA2 24 rfl
        have u25 := hA2 25 rfl
        have u26 := hA2 26 rfl
        have u34 := hA2 34 rfl
        have u35 := hA2 35 rfl
        try simp (disch := first | exact dschE30 | fail) only [go_sem, ↓reduceIte, p1, p2, p3, p4, p6, p24, p25] at u1 u2 u3 u4 u6 u7 u8 u24 u25 u26 u34 u35
        have hlt2 : ((bad.length : Int) < (bad.length : Int)) = False := eq_false (by omega)
        have u26 := hA2 26 rfl; simp (disch := first | exact dschE30 | fail) only [go_sem, ↓reduceIte, r26] at u26
        have hsp := @Nat.succ_ne_zero; repeat' (first | simp (disch := first | exact dschE30 | fail) only [go_sem, ↓reduceIte, hsp, r36, u1, u2, u3, u4, u6, u7, u8, u24, u25, u26, u34, u35, u26, hlt2] | refine WP_drw ?_ | refine cnd_intro (fun hsp => ?_) fun hsp => ?_)
        refine ⟨by (repeat first | exact Agree.refl | assumption | refine Agree.put rfl ?_ | refine Agree.put0 ?_ | refine Agree.sub rfl (by assumption) ?_), by first | rfl | omega, m2, rfl, hM2.1, fun i' k' h1 h2 q => hM2.2 i' k' h1 h2 ?_⟩
        by_cases e : i' = i
        · exact .inr ⟨e, h2⟩
        · exact .inl (by omega)
    · rintro fr H hA ⟨r26, m, rfl, hM⟩
      have p1 := hA 1 rfl
      have p2 := hA 2 rfl
      have p3 := hA 3 rfl
      have p4 := hA 4 rfl
      have p6 := hA 6 rfl
      have p24 := hA 24 rfl
      have p25 := hA 25 rfl
      try simp (disch := first | exact dschE30 | fail) only [go_sem, ↓reduceIte] at p1 p2 p3 p4 p6 p24 p25
      have hlt : ((bad.length : Int) < (bad.length : Int)) = False := eq_false (by omega)
      obtain ⟨h0, eh0⟩ : ∃ h0, h0 = H1 ++ [matB m] := ⟨_, rfl⟩
      have hlB2 : ∀ {a : ABlk}, lenOpA prog (H1 ++ [matB m] ++ [a]) 36 bv = some (.int .i64 (bad.length : Int)) := fun {a} => lenI g4.app.app
      have hlP2 : ∀ {a : ABlk}, lenOpA prog (H1 ++ [matB m] ++ [a]) 22 pv = some (.int .i64 (L.ps.length : Int)) := fun {a} => ((hP.ext xh).ext (.app (.app .refl))).len
      have hle : ∀ {base : Nat} {a : ABlk}, callL prog raw base (.fn 94 [] []) [.int .i64 (bad.length : Int), .slice (some ⟨(H1 ++ [matB m] ++ [a]).length, 0, 0⟩) 1 1] (H1 ++ [matB m] ++ [a] ++ [rowB [(L.ps.length : Int)] 0]) = some (.int .i64 ((min bad.length L.ps.length : Nat) : Int), H1 ++ [matB m] ++ [a] ++ [rowB [(L.ps.length : Int)] 0]) := fun {base a} => by
        have q := run_least (base := base) (n := (bad.length : Int)) (slice_row (A := H1 ++ [matB m] ++ [a]) (n := (H1 ++ [matB m] ++ [a]).length) (k := 1) (l := [(L.ps.length : Int)]) rfl rfl ⟨by simp, fun x hx => by simp at hx; omega⟩)
        rw [q]
        simp only [List.foldl_cons, List.foldl_nil]
        rw [show min (bad.length : Int) (L.ps.length : Int) = ((min bad.length L.ps.length : Nat) : Int) by omega]
      simp only [List.length_append, List.length_cons, List.length_nil, Nat.zero_add] at hle
      have hsp := @Nat.succ_ne_zero; repeat' (first | simp (disch := first | exact dschE30 | fail) only [go_sem, ↓reduceIte, hsp, r26, p1, p2, p3, p4, p6, p24, p25, hlt, g1, hlB2, g0, hlP2, hle] | refine WP_drw ?_ | refine cnd_intro (fun hsp => ?_) fun hsp => ?_)
      obtain ⟨N, eN⟩ : ∃ N, N = min bad.length L.ps.length := ⟨_, rfl⟩
      rw [← eN]
      have hN : N ≤ 6 := by omega
      have hh0 : h0.length = H1.length + 1 := by rw [eh0]; simp
      have xh0 : Ext H1 h0 := by rw [eh0]; exact .app .refl
      have gm0 : h0[H1.length]? = some (matB m) := by rw [eh0]; simp
      refine WP_count [(2, 3), (12, 80)] 0 N (Nat.zero_le _) (fun _ j fr h' => fr 12 = .int .i64 ((N - j : Nat) : Int) ∧ ∃ o, OutI h0 (H1.length + 1) o h' ∧ pckF (pckP L) bad N none = pckF (pckP L) bad (N - j) o) ?_ ?_ ?_
      · refine ⟨by simp (disch := first | exact dschE30 | fail) only [go_sem, ↓reduceIte, Nat.sub_zero], none, ⟨by omega, by rw [eh0]; exact .app (.app .refl), .slice none 0 0, ?_, Own.nil, fun r n c q => by cases q⟩, rfl⟩
        exact get_app (get_eq (by simp))
      · rintro j fr2 H hj0 hj hA2 ⟨r12, o, hOI, hpf⟩
        have u4 := hA2 4 rfl
        have u6 := hA2 6 rfl
        have u11 := hA2 11 rfl
        try simp (disch := first | exact dschE30 | fail) only [go_sem, ↓reduceIte, p4, p6] at u4 u6 u11
        have xH := hOI.2.1
        have hHl := xH.len
        have hobl : H1.length + 1 < H.length := by obtain ⟨_, _, s', q, _⟩ := hOI; exact lt_of_get q
        have g1' := (xh0.trans xH).get g1
        have gB := g4.ext (xh0.trans xH)
        have hbk := back_packed (base := base) (ob := H1.length + 1) (mid := H1.length) (many := N - j) (h0 := h0) (m := m) (of := bad) (by omega) (by omega) gm0 hM.1 hbr (by omega)
        have hofo : Off [H1.length + 1] bv := by
          intro r n c q hm
          have := (g4.rows).lowid2 r n c q
          simp at hm
          omega
        obtain ⟨v3, H3, e3, rfl, k3, i3⟩ := run_lists (base := base) (h := H) (ofv := bv) (o := o) (by omega) (by omega) (⟨rfl, rfl, rfl⟩) hbk (fun o H H' e x => x.ext e) (by omega) hofo (by omega) gB hOI
        have hpc : visF (mtP m) (lexC bad (N - j) [] 0) o = visF (pckP L) (lexC bad (N - j) [] 0) o := visF_congr fun x hx => mtP_eq (by rw [← ebad, ← ems]; exact hM) fun y hy => by
          rw [← ebad]
          exact (lexC_sub hx y hy).elim (fun z => by cases z) id
        rw [hpc] at e3 i3
        have t0 : (((N - j : Nat) : Int) > 0) = True := eq_true (by omega)
        have hst : pckF (pckP L) bad (N - j) o = if (visF (pckP L) (lexC bad (N - j) [] 0) o).1 = true then (visF (pckP L) (lexC bad (N - j) [] 0) o).2.getD [] else pckF (pckP L) bad (N - (j + 1)) (visF (pckP L) (lexC bad (N - j) [] 0) o).2 := by
          rw [show N - j = (N - (j + 1)) + 1 by omega, pckF]
        have hjj : (((N - j : Nat) : Int) - 1) = ((N - (j + 1) : Nat) : Int) := by omega
        obtain ⟨res, eres⟩ : ∃ res, res = visF (pckP L) (lexC bad (N - j) [] 0) o := ⟨_, rfl⟩
        rw [← eres] at e3 i3 hst
        cases hr : res.1 with
        | true =>
          rw [hr, if_pos rfl] at hst
          rw [hr] at e3
          obtain ⟨q1, q2, s', q3, q4, q5⟩ := i3
          rw [outB] at q3
          have hsp := @Nat.succ_ne_zero; repeat' (first | simp (disch := first | exact dschE30 | fail) only [go_sem, ↓reduceIte, hsp, r12, u4, u6, u11, t0, g1', e3, q3] | refine WP_drw ?_ | refine cnd_intro (fun hsp => ?_) fun hsp => ?_)
          first | refine ⟨(xh.trans xh0).trans q2, s', rfl, ?_⟩ | refine ⟨s', rfl, ?_⟩
          rw [hpf, hst]
          exact q4
        | false =>
          rw [hr, if_neg (by simp)] at hst
          rw [hr] at e3
          have hsp := @Nat.succ_ne_zero; repeat' (first | simp (disch := first | exact dschE30 | fail) only [go_sem, ↓reduceIte, hsp, r12, u4, u6, u11, t0, g1', e3, hjj] | refine WP_drw ?_ | refine cnd_intro (fun hsp => ?_) fun hsp => ?_)
          exact ⟨by (repeat first | exact Agree.refl | assumption | refine Agree.put rfl ?_ | refine Agree.put0 ?_ | refine Agree.sub rfl (by assumption) ?_), res.2, i3, by rw [hpf, hst]⟩
      · rintro fr2 H hA2 ⟨r12, o, hOI, hpf⟩
        have u4 := hA2 4 rfl
        have u6 := hA2 6 rfl
        have u11 := hA2 11 rfl
        try simp (disch := first | exact dschE30 | fail) only [go_sem, ↓reduceIte, p4, p6] at u4 u6 u11
        have t0 : (((N - N : Nat) : Int) > 0) = False := eq_false (by omega)
        obtain ⟨q1, q2, s', q3, q4, q5⟩ := hOI
        have hsp := @Nat.succ_ne_zero; repeat' (first | simp (disch := first | exact dschE30 | fail) only [go_sem, ↓reduceIte, hsp, r12, u4, u6, u11, t0] | refine WP_drw ?_ | refine cnd_intro (fun hsp => ?_) fun hsp => ?_)
        first | refine ⟨(xh.trans xh0).trans q2, _, rfl, ?_⟩ | refine ⟨_, rfl, ?_⟩
        rw [hpf, Nat.sub_self]
        exact Own.nil
  · have t1 : (tolE L false = 0) = False := eq_false c1
    have r : pckM L = ([], tolE L false) := by unfold pckM; rw [if_pos c1]
    rw [r]
    refine ret_raw func32 rfl (by kernel_rfl) ?_
    have hsp := @Nat.succ_ne_zero; repeat' (first | simp (disch := first | exact dschE30 | fail) only [go_sem, ↓reduceIte, hsp, e1, t1] | refine WP_drw ?_ | refine cnd_intro (fun hsp => ?_) fun hsp => ?_)
    exact ⟨xh, _, rfl, Own.nil⟩
end Go.AM
