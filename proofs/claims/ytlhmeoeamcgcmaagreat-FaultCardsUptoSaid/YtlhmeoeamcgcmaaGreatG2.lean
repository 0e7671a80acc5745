/-
  Contracts: in how many ways breaks that are let explain each set of sights (the walk).
-/
import Derived.Test.YtlhmeoeamcgcmaaGreatG1
set_option linter.unusedSimpArgs false
set_option linter.unusedVariables false
namespace Go.AM
open Go.Proofs.Tryz
theorem dschE21 {p : Prop} (h : p := by first | exact Nat.ne_of_beq_eq_false rfl | assumption | (apply asOne; (first | exact One.int | exact One.bool | assumption | exact Ints.one (by assumption) | exact Rows.one (by assumption) | exact Own.one (by assumption) | exact One.lit ⟨rfl, rfl, rfl⟩)) | (apply asInts; (repeat first | assumption | exact ints_nil | apply Ints.app); done) | (apply asRows; (repeat first | assumption | exact Rows.nil | apply Rows.app); done) | (apply asScal; (first | apply allS1 | apply allS2 | apply allS3 | apply allS4) <;> (first | exact One.int | exact One.bool | assumption | exact Ints.one (by assumption) | exact Rows.one (by assumption) | exact Own.one (by assumption) | exact One.lit ⟨rfl, rfl, rfl⟩)) | exact litT rfl | exact litF rfl | omega | (simp only [List.length_append, List.length_cons, List.length_nil, List.length_set, List.length_reverse]; first | done | omega) | fail) : p := h
attribute [-go_sem] put_ne put_same
attribute [local go_sem ↓] put_if
theorem stE21 {base : Nat} {l : List Oper} {s : St} {Q : AExit → St → Prop} : WP prog raw base (.region 9 l.toArray false) s Q = WPS prog raw base (.region 9 l.toArray false) s Q := WP_stop
attribute [local go_sem ↓ 3000] stE21
theorem stE21b {base : Nat} {l : List Oper} {s : St} {Q : AExit → St → Prop} : WP prog raw base (.region 17 l.toArray true) s Q = WPS prog raw base (.region 17 l.toArray true) s Q := WP_stop
attribute [local go_sem ↓ 3000] stE21b
set_option maxHeartbeats 4000000 in
theorem run_ways {base : Nat} {h : Heap} {v g : AVal} {L : Lom} {bad : List Int} {ms : List (List Bool)} {f : Brk → Nat → Bool} (hb : base ≤ h.length) (hD : DeskAt h v L bad ms) (hc : chkM L = 0) (hbl : bad.length ≤ 10) (hbi : ∀ i ∈ bad, 0 ≤ i ∧ i < (L.ss.length : Int)) (hrl : ∀ p ∈ L.ps, p.rib.length ≤ 1000) (hg : One g)
    (hf : ∀ base H b x, Ext h H → base ≤ H.length → (0 ≤ b.1 ∧ b.1 < (L.ps.length : Int)) → x < 2 ^ bad.length → callL prog raw base g [.agg (mdC b x)] H = some (.bool (f b x), H)) :
    Ret prog raw base (.fn 76 [] []) [v, .agg [g]] h (fun w H => Ext h H ∧ WaysAt h.length H w (wayA L bad ms f)) := by
  obtain ⟨k1, k2, k3, k4, k5, k6⟩ := chkM_ok hc
  obtain ⟨did, mid, pv, sv, bv, rfl, g1, g2, g3, g4, g5, g6, g7⟩ := id hD
  rw [deskB] at g1
  obtain ⟨n, en⟩ : ∃ n, n = 2 ^ bad.length := ⟨_, rfl⟩
  have hn0 : 0 < n := by rw [en]; exact Nat.two_pow_pos _
  have hn1 : n ≤ 2 ^ 10 := by rw [en]; exact Nat.pow_le_pow_right (by decide) hbl
  have hsh := shlN (t := 3) (k := bad.length) (by omega)
  rw [← en] at hsh
  have lg1 := lt_of_get g1
  have hlB : ∀ {A : Heap}, lenOpA prog (h ++ A) 36 bv = some (.int .i64 (bad.length : Int)) := fun {A} => lenI g4.app
  have hmk : ∀ {h : Heap}, _ := fun {h} => make_full (P := prog) (h := h) Fc.el135 hn0 (by omega)
  have hrep : repCells [.int .i64 0, .slice none 0 0] n = flat encW (List.replicate n ⟨0, .slice none 0 0⟩) := rep_flat (E := encW) (x := ⟨0, .slice none 0 0⟩) n
  rw [hrep] at hmk
  have hlP : ∀ {a b c : ABlk}, lenOpA prog (h ++ [a] ++ [b] ++ [c]) 22 pv = some (.int .i64 (L.ps.length : Int)) := fun {a b c} => (g2.ext (.app (.app (.app .refl)))).len
  obtain ⟨vs0, evs0⟩ : ∃ vs0 : List WyV, vs0 = (List.replicate n ⟨0, .slice none 0 0⟩).set 0 ⟨1, .slice none 0 0⟩ := ⟨_, rfl⟩
  have hst0 : ∀ {K : ABlk → Heap}, stQ base (h.length + 1) (some ⟨.cells (flat encW (List.replicate n ⟨0, .slice none 0 0⟩)) 148 true false, 0⟩) 0 0 [.int .i64 1] K = some (K (wyB vs0)) := fun {K} => by
    have q := (stW (K := K) (i := 0) (base := base) (N := h.length + 1) (vs := List.replicate n ⟨0, .slice none 0 0⟩) (w := ⟨0, .slice none 0 0⟩) (u := ⟨1, .slice none 0 0⟩) (by omega) (by rw [List.getElem?_replicate, if_pos hn0]) ⟨rfl, rfl, rfl⟩ ⟨rfl, rfl, rfl⟩).1 rfl
    rw [evs0]
    exact q
  obtain ⟨h1, eh1⟩ : ∃ h1, h1 = h ++ [⟨.cells [g] 141 false false, 0⟩] := ⟨_, rfl⟩
  have xh1 : Ext h h1 := by rw [eh1]; exact .app .refl
  have hl1 : h1.length = h.length + 1 := by rw [eh1]; simp
  have hfb : h1[h.length]? = some ⟨.cells [g] 141 false false, 0⟩ := by rw [eh1]; simp
  refine ret_raw func76 rfl (by kernel_rfl) ?_
  have hsp := @Nat.succ_ne_zero; repeat' (first | simp (disch := first | exact dschE21 | fail) only [go_sem, ↓reduceIte, hsp, g1, hlB, hsh, hmk, hlP, hst0] | refine WP_drw ?_ | refine cnd_intro (fun hsp => ?_) fun hsp => ?_)
  refine WP_count [(6, 11), (28, 35), (37, 96)] 0 L.ps.length (Nat.zero_le _) (fun _ p fr h' => fr 28 = .int .i64 (p : Int) ∧ Ext h1 h' ∧ ∃ nid vs, h'[h.length + 1 + 1]? = some (slB nid n) ∧ h'[nid]? = some (wyB vs) ∧ RelW h1.length h' [] vs (wayN L bad ms f p)) ?_ ?_ ?_
  · refine ⟨by (simp (disch := first | exact dschE21 | fail) only [go_sem, ↓reduceIte, Int.natCast_zero]; first | done | rfl), by rw [eh1]; exact .app (.app .refl), h.length + 1, vs0, ?_, by simp, ?_⟩
    · rw [List.getElem?_append_right (by simp)]; simp [slB]
    refine ⟨by rw [evs0, wayN_len]; simp [en], fun i x w q1 q2 => ?_⟩
    rw [evs0, List.getElem?_set] at q1
    rw [wayN, List.getElem?_set] at q2
    by_cases e : 0 = i
    · rw [if_pos e] at q1 q2
      split at q1
      · split at q2
        · cases q1; cases q2
          exact ⟨rfl, Own.nil, fun r n c q => by cases q⟩
        · cases q2
      · cases q1
    · rw [if_neg e, List.getElem?_replicate] at q1 q2
      split at q1
      · split at q2
        · cases q1; cases q2
          exact ⟨rfl, Own.nil, fun r n c q => by cases q⟩
        · cases q2
      · cases q1
  · rintro p fr H hp0 hp hA ⟨r28, xH, nid, vs, c1, c2, c3⟩
    have p0 := hA 0 rfl
    have p3 := hA 3 rfl
    have p4 := hA 4 rfl
    have p5 := hA 5 rfl
    have p27 := hA 27 rfl
    try simp (disch := first | exact dschE21 | fail) only [go_sem, ↓reduceIte] at p0 p3 p4 p5 p27
    have hlt : ((p : Int) < (L.ps.length : Int)) = True := eq_true (by omega)
    have xh : Ext h H := xh1.trans xH
    have hHl := xH.len
    rw [hl1] at hHl
    have hvn : vs.length = n := by rw [c3.1, wayN_len, en]
    have hRv : Rows encW H (.slice (some ⟨nid, 0, 0⟩) n n) vs := Rows.own c2 hvn.symm (by omega)
    have hcl := run_cloneW (base := base) hRv (fun q => by rw [q] at hvn; simp at hvn; omega) (by omega)
    rw [hvn] at hcl
    have c1' := c1
    rw [slB] at c1'
    have hbr := run_breaks (base := base) (h := H ++ [wyB vs] ++ [slB H.length n]) (k := p) (by simp; omega) (hD.ext (.app (.app xh))) k3.2 hp
    simp only [slB, wyB, List.length_append, List.length_cons, List.length_nil, Nat.zero_add] at hbr hcl
    have hsp := @Nat.succ_ne_zero; repeat' (first | simp (disch := first | exact dschE21 | fail) only [go_sem, ↓reduceIte, hsp, r28, p0, p3, p4, p5, p27, hlt, c1', hcl, hbr] | refine WP_drw ?_ | refine cnd_intro (fun hsp => ?_) fun hsp => ?_)
    refine WP_rest fun F G eF eG => ?_
    have kF3 := congrFun eF 3
    have kF4 := congrFun eF 4
    have kF5 := congrFun eF 5
    have kF7 := congrFun eF 7
    have kF27 := congrFun eF 27
    try simp (disch := first | exact dschE21 | fail) only [go_sem, ↓reduceIte, p3, p4, p5, p27] at kF3 kF4 kF5 kF7 kF27
    have lG := congrArg List.length eG
    try simp (disch := first | exact dschE21 | fail) only [go_sem, ↓reduceIte] at lG
    have kF28 := congrFun eF 28; simp (disch := first | exact dschE21 | fail) only [go_sem, ↓reduceIte, r28] at kF28
    have eF35 := congrFun eF 35; simp (disch := first | exact dschE21 | fail) only [go_sem, ↓reduceIte] at eF35
    have aF : Agree [(6, 11), (28, 35), (37, 96)] F fr := by rw [eF]; (repeat first | exact Agree.refl | assumption | refine Agree.put rfl ?_ | refine Agree.put0 ?_ | refine Agree.sub rfl (by assumption) ?_)
    clear eF
    obtain ⟨N, eN⟩ : ∃ N, N = H.length := ⟨_, rfl⟩
    have hGl : G.length = N + 5 := by rw [eG, eN]; simp
    have xG : Ext H G := by rw [eG]; exact .app (.app (.app (.app (.app .refl))))
    obtain ⟨now, enow⟩ : ∃ now, now = wayN L bad ms f p := ⟨_, rfl⟩
    have hnl : now.length = n := by rw [enow, wayN_len, en]
    have htn : tot now ≤ 145 ^ 6 := by rw [enow]; exact Nat.le_trans (wayN_tot (by omega) p) (Nat.pow_le_pow_right (by decide) (by omega))
    have hshn : shortW p now := by rw [enow]; exact wayN_short p
    rw [← enow] at c3
    obtain ⟨mds, emds⟩ : ∃ mds, mds = made L bad ms p := ⟨_, rfl⟩
    have hml : mds.length ≤ 144 := by rw [emds]; exact made_len (by omega)
    have hmb : ∀ q ∈ mds, Below n q.2 := by rw [emds, en]; exact made_below
    have hW0 : WI h1 (.ptr (some ⟨did, 0, 0⟩)) p (freeB (ms.getD p [])) (h.length + 1 + 1) nid N n vs now now G := by
      have ln := lt_of_get c2
      have lc := lt_of_get c1
      have c4 : RelW h1.length G [N, N + 5] vs now := (((c3.more (i := N + 5) (by omega)).more (i := N) (by omega)).ext xG)
      refine ⟨by omega, xH.trans xG, ⟨?_, ?_, ?_⟩, xG.get c1, xG.get c2, ?_, c4, vs, ?_, c4⟩
      · rw [eG, eN]; simp
      · rw [eG, eN]; simp
      · rw [eG, eN]; simp
      · rw [eG, eN]; simp [slB]
      · rw [eG, eN]; simp [wyB]
    rw [← eN] at kF7 eF35
    clear eG lG
    refine WP_range (f := 137) (a := []) (c := [.ptr (some ⟨N + 2, 0, 0⟩), .ptr (some ⟨N + 4, 0, 0⟩), .ptr (some ⟨N + 3, 0, 0⟩)]) (by rw [ev_tmp, eF35]) (N := mds.length) (xs := fun j => [.agg (mdC (mds.getD j (brk0, 0)).1 (mds.getD j (brk0, 0)).2)])
      (fun j H2 => WI h1 (.ptr (some ⟨did, 0, 0⟩)) p (freeB (ms.getD p [])) (h.length + 1 + 1) nid N n vs now (stepJ f now mds j) H2) (fun _ _ => False) ?_ (fun j => rfl) (fun j H2 T x => x.ext (.app .refl)) (fun j H2 b x => by rw [hGl]; exact x.set5) (fun e H2 b x => x) (hW0.ext (.app .refl)) ?_ ?_ (fun e H2 _ x => x.elim)
    · rw [emds]
      refine yields_breaks (v := .ptr (some ⟨did, 0, 0⟩)) hc hp hbl hbi hrl fun j H2 x => ?_
      have q := x.2.1.len
      exact ⟨by omega, x.2.2.1, hD.ext (xh1.trans x.2.1)⟩
    · rintro j H2 B1 B2 hj hW hlen hB1
      rw [hGl] at hlen hB1 ⊢
      obtain ⟨⟨b, x⟩, ebx⟩ : ∃ bx : Brk × Nat, bx = mds.getD j (brk0, 0) := ⟨_, rfl⟩
      rw [← ebx]
      simp only [mdC]
      have hH2 := lt_of_get hB1
      have hbH : base ≤ H2.length := by omega
      have hsp := @Nat.succ_ne_zero; repeat' (first | simp (disch := first | exact dschE21 | fail) only [go_sem, ↓reduceIte, hsp, kF3, kF4, kF5, kF7, kF27, kF28] | refine WP_drw ?_ | refine cnd_intro (fun hsp => ?_) fun hsp => ?_)
      refine ⟨hB1, ?_⟩
      refine WPS_rest fun A K eA eK => ?_
      rw [WP_region]
      have kA3 := congrFun eA 3
      have kA4 := congrFun eA 4
      have kA5 := congrFun eA 5
      have kA7 := congrFun eA 7
      have kA8 := congrFun eA 8
      have kA27 := congrFun eA 27
      try simp (disch := first | exact dschE21 | fail) only [go_sem, ↓reduceIte, kF3, kF4, kF5, kF7, kF27] at kA3 kA4 kA5 kA7 kA8 kA27
      have lK := congrArg List.length eK
      try simp (disch := first | exact dschE21 | fail) only [go_sem, ↓reduceIte] at lK
      clear eA lK
      have hK : WI h1 (.ptr (some ⟨did, 0, 0⟩)) p (freeB (ms.getD p [])) (h.length + 1 + 1) nid N n vs now (stepJ f now mds j) K := by
        rw [eK]
        first | exact (hW.ext (.app .refl)).set5 | exact (hW.set5).ext (.app .refl)
      have hKb : K[N + 5]? = some B2 := by rw [eK]; exact get_app (by rw [List.getElem?_set_self hH2])
      have hKm : K[H2.length]? = some (mdB b x) := by rw [eK, List.getElem?_append_right (by simp)]; simp [mdB, mdC]
      have hKk : ∀ (i : Nat) (y : ABlk), N + 5 + 1 ≤ i → H2[i]? = some y → K[i]? = some y := fun i y hi hy => by rw [eK]; exact get_app (by rw [get_set_ne (by omega)]; exact hy)
      have hKl : H2.length + 1 ≤ K.length := by rw [eK]; simp
      clear eK
      have hjm : (b, x) ∈ mds := by rw [ebx]; exact List.mem_of_getElem? (getD_some hj)
      have hbx : Below n x := hmb _ hjm
      have hx2 : x < n := by have := hbx 0 hn0; simpa using this
      have hbb : 0 ≤ b.1 ∧ b.1 < (L.ps.length : Int) := by
        rw [emds] at hjm
        obtain ⟨b', hb', e'⟩ := List.mem_map.1 hjm
        obtain ⟨n', d', _, _, rfl⟩ := brkL_mem.1 hb'
        cases e'
        exact ⟨by show (0 : Int) ≤ (p : Int); omega, by show (p : Int) < _; omega⟩
      have hfl := fun base hq => hf base K b x (xh1.trans hK.2.1) hq hbb (by rw [← en]; exact hx2)
      have d1 := hK.2.1.get hfb
      have d2 := hKm
      rw [mdB, mdC] at d2
      rw [mdC] at hfl
      have hst : stepJ f now mds (j + 1) = stepM f now (stepJ f now mds j) (b, x) := by rw [stepJ, ← ebx]
      rw [hst]
      unfold stepM
      have hsj : shortW (p + 1) (stepJ f now mds j) := stepJ_short hshn j
      have htj := stepJ_tot (f := f) (now := now) (l := mds) (by rw [hnl]; exact hmb) j (by omega)
      have hjl := stepJ_len (f := f) (now := now) (l := mds) j
      cases hfv : f b x with
      | false =>
        simp only [hfv] at hfl
        have hsp := @Nat.succ_ne_zero; repeat' (first | simp (disch := first | exact dschE21 | fail) only [go_sem, ↓reduceIte, hsp, kA3, kA4, kA5, kA7, kA8, kA27, d1, d2, hfl] | refine WP_drw ?_ | refine cnd_intro (fun hsp => ?_) fun hsp => ?_)
        exact ⟨hKb, hKk, .inl hK⟩
      | true =>
        simp only [hfv] at hfl
        have d3 := hK.2.2.2.1
        rw [slB] at d3
        have hsp := @Nat.succ_ne_zero; repeat' (first | simp (disch := first | exact dschE21 | fail) only [go_sem, ↓reduceIte, hsp, kA3, kA4, kA5, kA7, kA8, kA27, d1, d2, hfl, d3] | refine WP_drw ?_ | refine cnd_intro (fun hsp => ?_) fun hsp => ?_)
        refine WP_count [(9, 11), (44, 94)] 0 n (Nat.zero_le _) (fun _ s fr h' => fr 44 = .int .i64 (s : Int) ∧ WI h1 (.ptr (some ⟨did, 0, 0⟩)) p (freeB (ms.getD p [])) (h.length + 1 + 1) nid N n vs now (stepN now b x (stepJ f now mds j) s) h' ∧ h'[N + 5]? = some B2 ∧ h'[H2.length]? = some (mdB b x) ∧ (∀ (i : Nat) (y : ABlk), N + 5 + 1 ≤ i → H2[i]? = some y → h'[i]? = some y)) ?_ ?_ ?_
        · exact ⟨by (simp (disch := first | exact dschE21 | fail) only [go_sem, ↓reduceIte, Int.natCast_zero]; first | done | rfl), hK, hKb, hKm, hKk⟩
        · rintro s fr4 H4 hs0 hs hA4 ⟨r44, hW4, h4b, h4m, h4k⟩
          have B0 := hA4 0 rfl
          have B3 := hA4 3 rfl
          have B4 := hA4 4 rfl
          have B5 := hA4 5 rfl
          have B7 := hA4 7 rfl
          have B8 := hA4 8 rfl
          have B27 := hA4 27 rfl
          have B28 := hA4 28 rfl
          have B42 := hA4 42 rfl
          have B43 := hA4 43 rfl
          try simp (disch := first | exact dschE21 | fail) only [go_sem, ↓reduceIte, kA3, kA4, kA5, kA7, kA8, kA27] at B0 B3 B4 B5 B7 B8 B27 B28 B42 B43
          have hlt4 : ((s : Int) < (n : Int)) = True := eq_true (by omega)
          obtain ⟨nx, enx⟩ : ∃ nx, nx = stepN now b x (stepJ f now mds j) s := ⟨_, rfl⟩
          have hst2 : stepN now b x (stepJ f now mds j) (s + 1) = stepS now b x nx s := by rw [stepN, enx]
          rw [hst2]
          have hnxl : nx.length = n := by rw [enx, stepN_len, hjl, hnl]
          have hnxt : tot nx ≤ 146 * 145 ^ 6 := by
            have q1 := stepN_tot (b := b) (x := x) hjl (by rw [hnl]; exact hbx) s (by omega)
            have q2 := tot_take_le (l := now) s
            have q3 : (j + 1) * tot now ≤ 145 * 145 ^ 6 := Nat.mul_le_mul (by omega) htn
            rw [enx]
            omega
          have hnxs : shortW (p + 1) nx := by rw [enx]; exact stepN_short hshn hsj s
          rw [← enx] at hW4
          obtain ⟨⟨b1, b2, b3⟩, c0, _, c3, c4, c5, c6, vs2, c7, c8⟩ := id hW4
          obtain ⟨wv, w1, w2, w3, w4, w5⟩ := c6.get (i := s) (by omega)
          have hls := shortW_get (s := s) hshn
          have l4 := lt_of_get c4
          have ldw := ldWA w1 w5
          rw [← c4] at ldw
          rw [w2] at ldw
          have lH4 := c0.len
          have hbH4 : base ≤ H4.length := by omega
          have lm4 := lt_of_get h4m
          have g4m : ∀ {Z : Heap}, (H4 ++ Z)[H2.length]? = some (mdB b x) := fun {Z} => get_app h4m
          simp only [mdB, mdC] at g4m
          unfold stepS
          by_cases z0 : (now.getD s wy0).1 = 0
          · have t0 : (((now.getD s wy0).1 : Int) = 0) = True := eq_true (by omega)
            rw [if_pos z0]
            have hsp := @Nat.succ_ne_zero; repeat' (first | simp (disch := first | exact dschE21 | fail) only [go_sem, ↓reduceIte, hsp, r44, B0, B3, B4, B5, B7, B8, B27, B28, B42, B43, hlt4, ldw, t0] | refine WP_drw ?_ | refine cnd_intro (fun hsp => ?_) fun hsp => ?_)
            exact ⟨by (repeat first | exact Agree.refl | assumption | refine Agree.put rfl ?_ | refine Agree.put0 ?_ | refine Agree.sub rfl (by assumption) ?_), by omega, hW4.ext (.app .refl), h4b, h4m, fun i y hi hy => get_app (h4k i y hi hy)⟩
          · have t0 : (((now.getD s wy0).1 : Int) = 0) = False := eq_false (by omega)
            rw [if_neg z0]
            obtain ⟨ix, eix⟩ : ∃ ix, ix = s ||| x := ⟨_, rfl⟩
            have hix : ix < n := by rw [eix]; exact hbx s (by omega)
            have hor := orN (t := 3) (a := s) (b := x) (by omega) (by omega)
            rw [← eix] at hor ⊢
            obtain ⟨xv, x1, x2, x3, x4, x5⟩ := c8.get (i := ix) (by omega)
            have hlx := shortW_get (s := ix) hnxs
            have ldx := (ldW x1 x5).1
            have ldx2 := (ldW x1 x5).2
            rw [← c7, x2] at ldx
            rw [← c7] at ldx2
            have l7 := lt_of_get c7
            have l51 := lt_of_get c5
            rw [slB] at c5
            have ht1 := tot_get (l := nx) (i := ix)
            have ht2 := tot_get (l := now) (i := s)
            have hb1 : (nx.getD ix wy0).1 + (now.getD s wy0).1 < 2 ^ 62 := by omega
            have hwl : ∀ {Z : ABlk}, lenOpA prog (H4 ++ [Z]) 60 wv.v = some (.int .i64 ((now.getD s wy0).2.length : Int)) := fun {Z} => own_len w3.app Fc.el60 (by omega)
            have hxl : ∀ {Z : ABlk}, lenOpA prog (H4 ++ [Z]) 60 xv.v = some (.int .i64 ((nx.getD ix wy0).2.length : Int)) := fun {Z} => own_len x3.app Fc.el60 (by omega)
            by_cases z1 : (nx.getD ix wy0).1 = 0
            · have t1 : (((nx.getD ix wy0).1 : Int) = 0) = True := eq_true (by omega)
              rw [if_pos (.inl z1)]
              obtain ⟨z, H5, ez, xz, oz⟩ := run_cloneB (base := base) (h := H4 ++ [⟨.cells [.int .i64 ((now.getD s wy0).1 : Int), wv.v] 148 false false, 0⟩]) w3.app (by omega)
              have g5m : ∀ {Z : Heap}, (H5 ++ Z)[H2.length]? = some (mdB b x) := fun {Z} => get_app (xz.get (get_app h4m))
              have g5m' := g5m (Z := [])
              rw [List.append_nil] at g5m'
              have l5m := lt_of_get g5m'
              simp only [mdB, mdC] at g5m g5m'
              obtain ⟨v', H6, ea, oV, hle, hE, hV1⟩ := (oz.app (T := [rowE encB 75 [b] 0])).appendR (x := .slice (some ⟨H5.length, 0, 0⟩) 1 1) (m := [b]) (base := base) (t := 60) (Rows.own (get_eq rfl) rfl (by simp)) Fc.el60 encB_sc (by simp; omega) (by have := xz.len; simp at this ⊢; omega) (by simp) (by have q : [b].length = 1 := rfl; omega)
              have x46 : Ext H4 H6 := hE H4 (by simp) (((Ext.app .refl).trans xz).app)
              have hst3 : ∀ {Z : ABlk → Heap}, stQ base N H6[N]? 0 (ix * 2 + 1) [v'] Z = some (Z (wyB (vs2.set ix ⟨xv.many, v'⟩))) := fun {Z} => by
                rw [x46.get c7]
                exact (stW (u := ⟨xv.many, v'⟩) (by omega) x1 x5 hV1).2 rfl
              have hsp := @Nat.succ_ne_zero; repeat' (first | simp (disch := first | exact dschE21 | fail) only [go_sem, ↓reduceIte, hsp, r44, B0, B3, B4, B5, B7, B8, B27, B28, B42, B43, hlt4, ldw, t0, g4m, hor, c5, ldx, t1, ez, g5m', bsB, ea, hst3] | refine WP_drw ?_ | refine cnd_intro (fun hsp => ?_) fun hsp => ?_)
              obtain ⟨l3, el3⟩ : ∃ l3, l3 = (now.getD s wy0).2 ++ [b] := ⟨_, rfl⟩
              rw [← el3]
              rw [← el3] at oV
              have tW := (hW4.ext x46).put ((c8.ext x46).upd (i := ix) (y := ⟨xv.many, v'⟩) (w := ((nx.getD ix wy0).1, l3)) x2 (oV.low (by have := hW4.1.1; simp only [List.length_append]; omega)) (oV.off (X := [N, N + 5]) (fun i hi => by simp at hi ⊢; omega)))
              have tb : (H6.set N (wyB (vs2.set ix ⟨xv.many, v'⟩)))[N + 5]? = some B2 := by rw [get_set_ne (by omega)]; exact x46.get h4b
              have tm : (H6.set N (wyB (vs2.set ix ⟨xv.many, v'⟩)))[H2.length]? = some (mdB b x) := by rw [get_set_ne (by omega)]; exact x46.get h4m
              have tk : ∀ (i : Nat) (y : ABlk), N + 5 + 1 ≤ i → H2[i]? = some y → (H6.set N (wyB (vs2.set ix ⟨xv.many, v'⟩)))[i]? = some y := fun i y hi hy => by rw [get_set_ne (by omega)]; exact x46.get (h4k i y hi hy)
              have tw : (H6.set N (wyB (vs2.set ix ⟨xv.many, v'⟩)))[H4.length]? = some ⟨.cells [.int .i64 ((now.getD s wy0).1 : Int), wv.v] 148 false false, 0⟩ := by
                rw [get_set_ne (by omega)]
                exact (hE (H4 ++ [⟨.cells [.int .i64 ((now.getD s wy0).1 : Int), wv.v] 148 false false, 0⟩]) (Nat.le_refl _) xz.app).get (by simp)
              have tl : H4.length ≤ (H6.set N (wyB (vs2.set ix ⟨xv.many, v'⟩))).length := by rw [List.length_set]; exact x46.len
              refine WPS_rest fun C H7 eC eH7 => ?_
              refine WP_draw (by kernel_rfl) ?_
              have kC0 := congrFun eC 0
              have kC3 := congrFun eC 3
              have kC4 := congrFun eC 4
              have kC5 := congrFun eC 5
              have kC7 := congrFun eC 7
              have kC8 := congrFun eC 8
              have kC10 := congrFun eC 10
              have kC11 := congrFun eC 11
              have kC27 := congrFun eC 27
              have kC28 := congrFun eC 28
              have kC42 := congrFun eC 42
              have kC43 := congrFun eC 43
              have kC44 := congrFun eC 44
              try simp (disch := first | exact dschE21 | fail) only [go_sem, ↓reduceIte, B0, B3, B4, B5, B7, B8, B27, B28, B42, B43] at kC0 kC3 kC4 kC5 kC7 kC8 kC10 kC11 kC27 kC28 kC42 kC43 kC44
              have lH7 := congrArg List.length eH7
              try simp (disch := first | exact dschE21 | fail) only [go_sem, ↓reduceIte] at lH7
              have aC : Agree [(9, 11), (44, 94)] C fr4 := by rw [eC]; (repeat first | exact Agree.refl | assumption | refine Agree.put rfl ?_ | refine Agree.put0 ?_ | refine Agree.sub rfl (by assumption) ?_)
              clear eC lH7
              have hW7 := tW
              have h7b := tb
              have h7m := tm
              have h7k := tk
              have h7w := tw
              have h7l := tl
              rw [← eH7] at hW7 h7b h7m h7k h7w h7l
              clear eH7 tW tb tm tk tw tl
              have ⟨_, s0, _, s3, s4, s5, s6, vs3, s7, s8⟩ := hW7
              obtain ⟨yv, y1, y2, y3, y4, y5⟩ := s8.get (i := ix) (by rw [List.length_set, hnxl]; exact hix)
              have e3 : (nx.set ix ((nx.getD ix wy0).1, l3)).getD ix wy0 = ((nx.getD ix wy0).1, l3) := by rw [List.getD_eq_getElem?_getD, List.getElem?_set_self (by rw [hnxl]; exact hix)]; rfl
              rw [e3] at y2 y3
              have q1 := (ldW y1 y5).1
              rw [← s7] at q1
              have q2 : ∀ {Z : ABlk → Heap}, stQ base N H7[N]? 0 (ix * 2) [.int .i64 (((nx.getD ix wy0).1 + (now.getD s wy0).1 : Nat) : Int)] Z = some (Z (wyB (vs3.set ix ⟨(((nx.getD ix wy0).1 + (now.getD s wy0).1 : Nat) : Int), yv.v⟩))) := fun {Z} => by
                rw [s7]
                exact (stW (u := ⟨(((nx.getD ix wy0).1 + (now.getD s wy0).1 : Nat) : Int), yv.v⟩) (by omega) y1 y5 y5).1 rfl
              rw [y2] at q1
              have hadd : binA prog .add 3 (.int .i64 ((nx.getD ix wy0).1 : Int)) (.int .i64 ((now.getD s wy0).1 : Int)) = some (.int .i64 (((nx.getD ix wy0).1 + (now.getD s wy0).1 : Nat) : Int)) := by
                rw [bin_add, wrap64 (by omega) (by omega), Int.natCast_add]
              have hsp := @Nat.succ_ne_zero; repeat' (first | simp (disch := first | exact dschE21 | fail) only [go_sem, ↓reduceIte, hsp, kC0, kC3, kC4, kC5, kC7, kC8, kC10, kC11, kC27, kC28, kC42, kC43, kC44, r44, q1, q2, hadd, h7w] | refine WP_drw ?_ | refine cnd_intro (fun hsp => ?_) fun hsp => ?_)
              have fW := hW7.put (s8.upd (i := ix) (y := ⟨(((nx.getD ix wy0).1 + (now.getD s wy0).1 : Nat) : Int), yv.v⟩) (w := ((nx.getD ix wy0).1 + (now.getD s wy0).1, l3)) rfl y3 y4)
              rw [List.set_set] at fW
              refine ⟨by (repeat first | exact Agree.refl | assumption | refine Agree.put rfl ?_ | refine Agree.put0 ?_ | refine Agree.sub rfl (by assumption) ?_), by omega, fW, ?_, ?_, ?_⟩
              · first | exact h7b | (rw [get_set_ne (by omega)]; exact h7b)
              · first | exact h7m | (rw [get_set_ne (by omega)]; exact h7m)
              · intro i y hi hy
                rw [get_set_ne (by omega)]; exact h7k i y hi hy
            · have t1 : (((nx.getD ix wy0).1 : Int) = 0) = False := eq_false (by omega)
              by_cases z2 : (now.getD s wy0).2.length + 1 < (nx.getD ix wy0).2.length
              · have t2 : (((now.getD s wy0).2.length : Int) + 1 < ((nx.getD ix wy0).2.length : Int)) = True := eq_true (by omega)
                rw [if_pos (.inr z2)]
                obtain ⟨z, H5, ez, xz, oz⟩ := run_cloneB (base := base) (h := H4 ++ [⟨.cells [.int .i64 ((now.getD s wy0).1 : Int), wv.v] 148 false false, 0⟩]) w3.app (by omega)
                have g5m : ∀ {Z : Heap}, (H5 ++ Z)[H2.length]? = some (mdB b x) := fun {Z} => get_app (xz.get (get_app h4m))
                have g5m' := g5m (Z := [])
                rw [List.append_nil] at g5m'
                have l5m := lt_of_get g5m'
                simp only [mdB, mdC] at g5m g5m'
                obtain ⟨v', H6, ea, oV, hle, hE, hV1⟩ := (oz.app (T := [rowE encB 75 [b] 0])).appendR (x := .slice (some ⟨H5.length, 0, 0⟩) 1 1) (m := [b]) (base := base) (t := 60) (Rows.own (get_eq rfl) rfl (by simp)) Fc.el60 encB_sc (by simp; omega) (by have := xz.len; simp at this ⊢; omega) (by simp) (by have q : [b].length = 1 := rfl; omega)
                have x46 : Ext H4 H6 := hE H4 (by simp) (((Ext.app .refl).trans xz).app)
                have hst3 : ∀ {Z : ABlk → Heap}, stQ base N H6[N]? 0 (ix * 2 + 1) [v'] Z = some (Z (wyB (vs2.set ix ⟨xv.many, v'⟩))) := fun {Z} => by
                  rw [x46.get c7]
                  exact (stW (u := ⟨xv.many, v'⟩) (by omega) x1 x5 hV1).2 rfl
                have hsp := @Nat.succ_ne_zero; repeat' (first | simp (disch := first | exact dschE21 | fail) only [go_sem, ↓reduceIte, hsp, r44, B0, B3, B4, B5, B7, B8, B27, B28, B42, B43, hlt4, ldw, t0, g4m, hor, c5, ldx, ldx2, t1, hwl, hxl, t2, ez, g5m', bsB, ea, hst3] | refine WP_drw ?_ | refine cnd_intro (fun hsp => ?_) fun hsp => ?_)
                obtain ⟨l3, el3⟩ : ∃ l3, l3 = (now.getD s wy0).2 ++ [b] := ⟨_, rfl⟩
                rw [← el3]
                rw [← el3] at oV
                have tW := (hW4.ext x46).put ((c8.ext x46).upd (i := ix) (y := ⟨xv.many, v'⟩) (w := ((nx.getD ix wy0).1, l3)) x2 (oV.low (by have := hW4.1.1; simp only [List.length_append]; omega)) (oV.off (X := [N, N + 5]) (fun i hi => by simp at hi ⊢; omega)))
                have tb : (H6.set N (wyB (vs2.set ix ⟨xv.many, v'⟩)))[N + 5]? = some B2 := by rw [get_set_ne (by omega)]; exact x46.get h4b
                have tm : (H6.set N (wyB (vs2.set ix ⟨xv.many, v'⟩)))[H2.length]? = some (mdB b x) := by rw [get_set_ne (by omega)]; exact x46.get h4m
                have tk : ∀ (i : Nat) (y : ABlk), N + 5 + 1 ≤ i → H2[i]? = some y → (H6.set N (wyB (vs2.set ix ⟨xv.many, v'⟩)))[i]? = some y := fun i y hi hy => by rw [get_set_ne (by omega)]; exact x46.get (h4k i y hi hy)
                have tw : (H6.set N (wyB (vs2.set ix ⟨xv.many, v'⟩)))[H4.length]? = some ⟨.cells [.int .i64 ((now.getD s wy0).1 : Int), wv.v] 148 false false, 0⟩ := by
                  rw [get_set_ne (by omega)]
                  exact (hE (H4 ++ [⟨.cells [.int .i64 ((now.getD s wy0).1 : Int), wv.v] 148 false false, 0⟩]) (Nat.le_refl _) xz.app).get (by simp)
                have tl : H4.length ≤ (H6.set N (wyB (vs2.set ix ⟨xv.many, v'⟩))).length := by rw [List.length_set]; exact x46.len
                refine WPS_rest fun C H7 eC eH7 => ?_
                refine WP_draw (by kernel_rfl) ?_
                have kC0 := congrFun eC 0
                have kC3 := congrFun eC 3
                have kC4 := congrFun eC 4
                have kC5 := congrFun eC 5
                have kC7 := congrFun eC 7
                have kC8 := congrFun eC 8
                have kC10 := congrFun eC 10
                have kC11 := congrFun eC 11
                have kC27 := congrFun eC 27
                have kC28 := congrFun eC 28
                have kC42 := congrFun eC 42
                have kC43 := congrFun eC 43
                have kC44 := congrFun eC 44
                try simp (disch := first | exact dschE21 | fail) only [go_sem, ↓reduceIte, B0, B3, B4, B5, B7, B8, B27, B28, B42, B43] at kC0 kC3 kC4 kC5 kC7 kC8 kC10 kC11 kC27 kC28 kC42 kC43 kC44
                have lH7 := congrArg List.length eH7
                try simp (disch := first | exact dschE21 | fail) only [go_sem, ↓reduceIte] at lH7
                have aC : Agree [(9, 11), (44, 94)] C fr4 := by rw [eC]; (repeat first | exact Agree.refl | assumption | refine Agree.put rfl ?_ | refine Agree.put0 ?_ | refine Agree.sub rfl (by assumption) ?_)
                clear eC lH7
                have hW7 := tW
                have h7b := tb
                have h7m := tm
                have h7k := tk
                have h7w := tw
                have h7l := tl
                rw [← eH7] at hW7 h7b h7m h7k h7w h7l
                clear eH7 tW tb tm tk tw tl
                have ⟨_, s0, _, s3, s4, s5, s6, vs3, s7, s8⟩ := hW7
                obtain ⟨yv, y1, y2, y3, y4, y5⟩ := s8.get (i := ix) (by rw [List.length_set, hnxl]; exact hix)
                have e3 : (nx.set ix ((nx.getD ix wy0).1, l3)).getD ix wy0 = ((nx.getD ix wy0).1, l3) := by rw [List.getD_eq_getElem?_getD, List.getElem?_set_self (by rw [hnxl]; exact hix)]; rfl
                rw [e3] at y2 y3
                have q1 := (ldW y1 y5).1
                rw [← s7] at q1
                have q2 : ∀ {Z : ABlk → Heap}, stQ base N H7[N]? 0 (ix * 2) [.int .i64 (((nx.getD ix wy0).1 + (now.getD s wy0).1 : Nat) : Int)] Z = some (Z (wyB (vs3.set ix ⟨(((nx.getD ix wy0).1 + (now.getD s wy0).1 : Nat) : Int), yv.v⟩))) := fun {Z} => by
                  rw [s7]
                  exact (stW (u := ⟨(((nx.getD ix wy0).1 + (now.getD s wy0).1 : Nat) : Int), yv.v⟩) (by omega) y1 y5 y5).1 rfl
                rw [y2] at q1
                have hadd : binA prog .add 3 (.int .i64 ((nx.getD ix wy0).1 : Int)) (.int .i64 ((now.getD s wy0).1 : Int)) = some (.int .i64 (((nx.getD ix wy0).1 + (now.getD s wy0).1 : Nat) : Int)) := by
                  rw [bin_add, wrap64 (by omega) (by omega), Int.natCast_add]
                have hsp := @Nat.succ_ne_zero; repeat' (first | simp (disch := first | exact dschE21 | fail) only [go_sem, ↓reduceIte, hsp, kC0, kC3, kC4, kC5, kC7, kC8, kC10, kC11, kC27, kC28, kC42, kC43, kC44, r44, q1, q2, hadd, h7w] | refine WP_drw ?_ | refine cnd_intro (fun hsp => ?_) fun hsp => ?_)
                have fW := hW7.put (s8.upd (i := ix) (y := ⟨(((nx.getD ix wy0).1 + (now.getD s wy0).1 : Nat) : Int), yv.v⟩) (w := ((nx.getD ix wy0).1 + (now.getD s wy0).1, l3)) rfl y3 y4)
                rw [List.set_set] at fW
                refine ⟨by (repeat first | exact Agree.refl | assumption | refine Agree.put rfl ?_ | refine Agree.put0 ?_ | refine Agree.sub rfl (by assumption) ?_), by omega, fW, ?_, ?_, ?_⟩
                · first | exact h7b | (rw [get_set_ne (by omega)]; exact h7b)
                · first | exact h7m | (rw [get_set_ne (by omega)]; exact h7m)
                · intro i y hi hy
                  rw [get_set_ne (by omega)]; exact h7k i y hi hy
              · have t2 : (((now.getD s wy0).2.length : Int) + 1 < ((nx.getD ix wy0).2.length : Int)) = False := eq_false (by omega)
                rw [if_neg (fun q => q.elim z1 z2)]
                have hsp := @Nat.succ_ne_zero; repeat' (first | simp (disch := first | exact dschE21 | fail) only [go_sem, ↓reduceIte, hsp, r44, B0, B3, B4, B5, B7, B8, B27, B28, B42, B43, hlt4, ldw, t0, g4m, hor, c5, ldx, ldx2, t1, hwl, hxl, t2] | refine WP_drw ?_ | refine cnd_intro (fun hsp => ?_) fun hsp => ?_)
                obtain ⟨l3, el3⟩ : ∃ l3, l3 = (nx.getD ix wy0).2 := ⟨_, rfl⟩
                rw [← el3]
                have ens : nx.set ix ((nx.getD ix wy0).1, l3) = nx := by
                  have q := (List.getElem?_eq_some_iff.1 (getD_some (d := wy0) (show ix < nx.length by omega))).2
                  rw [el3]
                  show nx.set ix (nx.getD ix wy0) = nx
                  rw [← q, List.set_getElem_self]
                have tW := hW4.ext (.app (t := [⟨.cells [.int .i64 ((now.getD s wy0).1 : Int), wv.v] 148 false false, 0⟩]) .refl)
                rw [← ens] at tW
                have tb := get_app (T := [⟨.cells [.int .i64 ((now.getD s wy0).1 : Int), wv.v] 148 false false, 0⟩]) h4b
                have tm := get_app (T := [⟨.cells [.int .i64 ((now.getD s wy0).1 : Int), wv.v] 148 false false, 0⟩]) h4m
                have tk : ∀ (i : Nat) (y : ABlk), N + 5 + 1 ≤ i → H2[i]? = some y → (H4 ++ [⟨.cells [.int .i64 ((now.getD s wy0).1 : Int), wv.v] 148 false false, 0⟩])[i]? = some y := fun i y hi hy => get_app (h4k i y hi hy)
                have tw : (H4 ++ [⟨.cells [.int .i64 ((now.getD s wy0).1 : Int), wv.v] 148 false false, 0⟩])[H4.length]? = some ⟨.cells [.int .i64 ((now.getD s wy0).1 : Int), wv.v] 148 false false, 0⟩ := by simp
                have tl : H4.length ≤ (H4 ++ [(⟨.cells [.int .i64 ((now.getD s wy0).1 : Int), wv.v] 148 false false, 0⟩ : ABlk)]).length := by simp
                refine WPS_rest fun C H7 eC eH7 => ?_
                refine WP_draw (by kernel_rfl) ?_
                have kC0 := congrFun eC 0
                have kC3 := congrFun eC 3
                have kC4 := congrFun eC 4
                have kC5 := congrFun eC 5
                have kC7 := congrFun eC 7
                have kC8 := congrFun eC 8
                have kC10 := congrFun eC 10
                have kC11 := congrFun eC 11
                have kC27 := congrFun eC 27
                have kC28 := congrFun eC 28
                have kC42 := congrFun eC 42
                have kC43 := congrFun eC 43
                have kC44 := congrFun eC 44
                try simp (disch := first | exact dschE21 | fail) only [go_sem, ↓reduceIte, B0, B3, B4, B5, B7, B8, B27, B28, B42, B43] at kC0 kC3 kC4 kC5 kC7 kC8 kC10 kC11 kC27 kC28 kC42 kC43 kC44
                have lH7 := congrArg List.length eH7
                try simp (disch := first | exact dschE21 | fail) only [go_sem, ↓reduceIte] at lH7
                have aC : Agree [(9, 11), (44, 94)] C fr4 := by rw [eC]; (repeat first | exact Agree.refl | assumption | refine Agree.put rfl ?_ | refine Agree.put0 ?_ | refine Agree.sub rfl (by assumption) ?_)
                clear eC lH7
                have hW7 := tW
                have h7b := tb
                have h7m := tm
                have h7k := tk
                have h7w := tw
                have h7l := tl
                rw [← eH7] at hW7 h7b h7m h7k h7w h7l
                clear eH7 tW tb tm tk tw tl
                have ⟨_, s0, _, s3, s4, s5, s6, vs3, s7, s8⟩ := hW7
                obtain ⟨yv, y1, y2, y3, y4, y5⟩ := s8.get (i := ix) (by rw [List.length_set, hnxl]; exact hix)
                have e3 : (nx.set ix ((nx.getD ix wy0).1, l3)).getD ix wy0 = ((nx.getD ix wy0).1, l3) := by rw [List.getD_eq_getElem?_getD, List.getElem?_set_self (by rw [hnxl]; exact hix)]; rfl
                rw [e3] at y2 y3
                have q1 := (ldW y1 y5).1
                rw [← s7] at q1
                have q2 : ∀ {Z : ABlk → Heap}, stQ base N H7[N]? 0 (ix * 2) [.int .i64 (((nx.getD ix wy0).1 + (now.getD s wy0).1 : Nat) : Int)] Z = some (Z (wyB (vs3.set ix ⟨(((nx.getD ix wy0).1 + (now.getD s wy0).1 : Nat) : Int), yv.v⟩))) := fun {Z} => by
                  rw [s7]
                  exact (stW (u := ⟨(((nx.getD ix wy0).1 + (now.getD s wy0).1 : Nat) : Int), yv.v⟩) (by omega) y1 y5 y5).1 rfl
                rw [y2] at q1
                have hadd : binA prog .add 3 (.int .i64 ((nx.getD ix wy0).1 : Int)) (.int .i64 ((now.getD s wy0).1 : Int)) = some (.int .i64 (((nx.getD ix wy0).1 + (now.getD s wy0).1 : Nat) : Int)) := by
                  rw [bin_add, wrap64 (by omega) (by omega), Int.natCast_add]
                have hsp := @Nat.succ_ne_zero; repeat' (first | simp (disch := first | exact dschE21 | fail) only [go_sem, ↓reduceIte, hsp, kC0, kC3, kC4, kC5, kC7, kC8, kC10, kC11, kC27, kC28, kC42, kC43, kC44, r44, q1, q2, hadd, h7w] | refine WP_drw ?_ | refine cnd_intro (fun hsp => ?_) fun hsp => ?_)
                have fW := hW7.put (s8.upd (i := ix) (y := ⟨(((nx.getD ix wy0).1 + (now.getD s wy0).1 : Nat) : Int), yv.v⟩) (w := ((nx.getD ix wy0).1 + (now.getD s wy0).1, l3)) rfl y3 y4)
                rw [List.set_set] at fW
                refine ⟨by (repeat first | exact Agree.refl | assumption | refine Agree.put rfl ?_ | refine Agree.put0 ?_ | refine Agree.sub rfl (by assumption) ?_), by omega, fW, ?_, ?_, ?_⟩
                · first | exact h7b | (rw [get_set_ne (by omega)]; exact h7b)
                · first | exact h7m | (rw [get_set_ne (by omega)]; exact h7m)
                · intro i y hi hy
                  rw [get_set_ne (by omega)]; exact h7k i y hi hy
        · rintro fr4 H4 hA4 ⟨r44, hW4, h4b, h4m, h4k⟩
          have B0 := hA4 0 rfl
          have B3 := hA4 3 rfl
          have B4 := hA4 4 rfl
          have B5 := hA4 5 rfl
          have B7 := hA4 7 rfl
          have B8 := hA4 8 rfl
          have B27 := hA4 27 rfl
          have B28 := hA4 28 rfl
          have B42 := hA4 42 rfl
          have B43 := hA4 43 rfl
          try simp (disch := first | exact dschE21 | fail) only [go_sem, ↓reduceIte, kA3, kA4, kA5, kA7, kA8, kA27] at B0 B3 B4 B5 B7 B8 B27 B28 B42 B43
          have hlt4 : ((n : Int) < (n : Int)) = False := eq_false (by omega)
          have hsp := @Nat.succ_ne_zero; repeat' (first | simp (disch := first | exact dschE21 | fail) only [go_sem, ↓reduceIte, hsp, r44, B0, B3, B4, B5, B7, B8, B27, B28, B42, B43, hlt4] | refine WP_drw ?_ | refine cnd_intro (fun hsp => ?_) fun hsp => ?_)
          rw [hnl]
          exact ⟨h4b, h4k, .inl hW4⟩
    · rintro H3 hW
      obtain ⟨⟨b1, b2, b3⟩, d0, _, d3, d4, d5, d6, vs2, d7, d8⟩ := hW
      rw [slB] at d5 d3
      have la := lt_of_get d3
      have hsp := @Nat.succ_ne_zero; repeat' (first | simp (disch := first | exact dschE21 | fail) only [go_sem, ↓reduceIte, hsp, kF3, kF4, kF5, kF7, kF27, kF28, d5, d3] | refine WP_drw ?_ | refine cnd_intro (fun hsp => ?_) fun hsp => ?_)
      refine ⟨by (repeat first | exact Agree.refl | assumption | refine Agree.put rfl ?_ | refine Agree.put0 ?_ | refine Agree.sub rfl (by assumption) ?_), by omega, d0.set (by omega), N, vs2, ?_, ?_, ?_⟩
      · rfl
      · rw [get_set_ne (by omega)]; exact d7
      · rw [wayN, ← enow, ← emds]
        exact (d8.less (fun i hi => by cases hi)).setBox (m := nid) (n := n) d3
  · rintro fr H hA ⟨r28, xH, nid, vs, c1, c2, c3⟩
    have p0 := hA 0 rfl
    have p3 := hA 3 rfl
    have p4 := hA 4 rfl
    have p5 := hA 5 rfl
    have p27 := hA 27 rfl
    try simp (disch := first | exact dschE21 | fail) only [go_sem, ↓reduceIte] at p0 p3 p4 p5 p27
    have hlt : ((L.ps.length : Int) < (L.ps.length : Int)) = False := eq_false (by omega)
    rw [slB] at c1
    have hsp := @Nat.succ_ne_zero; repeat' (first | simp (disch := first | exact dschE21 | fail) only [go_sem, ↓reduceIte, hsp, r28, p0, p3, p4, p5, p27, hlt, c1] | refine WP_drw ?_ | refine cnd_intro (fun hsp => ?_) fun hsp => ?_)
    refine ⟨xh1.trans xH, nid, vs, ?_, c2, c3.low (by omega)⟩
    rw [wayA, wayN_len, en]
end Go.AM
/-
  Contracts: explained, all, told, Count, Fewest.
-/
namespace Go.AM
open Go.Proofs.Tryz
theorem dschE22 {p : Prop} (h : p := by first | exact Nat.ne_of_beq_eq_false rfl | assumption | (apply asOne; (first | exact One.int | exact One.bool | assumption | exact Ints.one (by assumption) | exact Rows.one (by assumption) | exact Own.one (by assumption) | exact One.lit ⟨rfl, rfl, rfl⟩)) | (apply asInts; (repeat first | assumption | exact ints_nil | apply Ints.app); done) | (apply asRows; (repeat first | assumption | exact Rows.nil | apply Rows.app); done) | (apply asScal; (first | apply allS1 | apply allS2 | apply allS3 | apply allS4) <;> (first | exact One.int | exact One.bool | assumption | exact Ints.one (by assumption) | exact Rows.one (by assumption) | exact Own.one (by assumption) | exact One.lit ⟨rfl, rfl, rfl⟩)) | exact litT rfl | exact litF rfl | omega | (simp only [List.length_append, List.length_cons, List.length_nil, List.length_set, List.length_reverse]; first | done | omega) | fail) : p := h
attribute [-go_sem] put_ne put_same
attribute [local go_sem ↓] put_if
/-- A right loom, and some of its sights. -/
def DeskL (L : Lom) (bad : List Int) : Prop := chkM L = 0 ∧ bad.length ≤ 10 ∧ (∀ i ∈ bad, 0 ≤ i ∧ i < (L.ss.length : Int)) ∧ ∀ p ∈ L.ps, p.rib.length ≤ 1000
/-- A closure says which breaks are let. -/
def Lets (h : Heap) (g : AVal) (L : Lom) (bad : List Int) (f : Brk → Nat → Bool) : Prop := One g ∧ ∀ base H b x, Ext h H → base ≤ H.length → (0 ≤ b.1 ∧ b.1 < (L.ps.length : Int)) → x < 2 ^ bad.length → callL prog raw base g [.agg (mdC b x)] H = some (.bool (f b x), H)
theorem Lets.ext {h H : Heap} {g : AVal} {L : Lom} {bad : List Int} {f : Brk → Nat → Bool} (x : Lets h g L bad f) (e : Ext h H) : Lets H g L bad f := ⟨x.1, fun base H' b y q => x.2 base H' b y (e.trans q)⟩
theorem deskL_of {L : Lom} {o : List Int} (hc : chkM L = 0) (hok : LomOk L) (ho : o.length ≤ 10) (hoi : ∀ i ∈ o, 0 ≤ i ∧ i < (L.ss.length : Int)) : DeskL L (deskN L o).1 :=
  ⟨hc, by have := (deskN_len (L := L) o).2.2; omega, fun i hi => hoi i (deskN_sub o i hi), hok.2.2.2.2⟩
theorem deskL_A {L : Lom} (hc : chkM L = 0) (hok : LomOk L) : DeskL L (deskA L).1 := by
  obtain ⟨k1, k2, k3, k4, k5, k6⟩ := chkM_ok hc
  exact deskL_of hc hok (by rw [upto_len]; exact k4) (fun i hi => upto_mem.1 hi)
/-- A box is no row. -/
theorem Own.setBox {α : Type} {E : Enc α} {e : TypeId} {b a : Nat} {h : Heap} {v : AVal} {l : List α} {k : ABlk} {c : List AVal} {t : TypeId} {ro : Bool} {u : Nat} (x : Own E e b h v l) (hg : h[a]? = some ⟨.cells c t false ro, u⟩) : Own E e b (h.set a k) v l := by
  rcases x with q | ⟨id, ver, e1, e2, e3, e4⟩
  · exact .inl q
  · have hne : a ≠ id := by
      rintro rfl
      rw [hg] at e2
      simp [rowE] at e2
    exact .inr ⟨id, ver, e1, by rw [List.getElem?_set_ne hne]; exact e2, e3, e4⟩
theorem run_ways' {base : Nat} {h : Heap} {v g : AVal} {L : Lom} {bad : List Int} {ms : List (List Bool)} {f : Brk → Nat → Bool} (hb : base ≤ h.length) (hD : DeskAt h v L bad ms) (hL : DeskL L bad) (hf : Lets h g L bad f) :
    Ret prog raw base (.fn 76 [] []) [v, .agg [g]] h (fun w H => Ext h H ∧ WaysAt h.length H w (wayA L bad ms f)) :=
  run_ways hb hD hL.1 hL.2.1 hL.2.2.1 hL.2.2.2 hf.1 hf.2
/-- All sights are explained. -/
def expM (L : Lom) (bad : List Int) (ms : List (List Bool)) (f : Brk → Nat → Bool) : Way := (wayA L bad ms f).getD (2 ^ bad.length - 1) wy0
theorem expM_bd {L : Lom} {bad : List Int} {ms : List (List Bool)} {f : Brk → Nat → Bool} (hL : DeskL L bad) : (expM L bad ms f).1 < 2 ^ 62 ∧ (expM L bad ms f).2.length ≤ 6 := by
  obtain ⟨k1, k2, k3, k4, k5, k6⟩ := chkM_ok hL.1
  have h1 := tot_get (l := wayA L bad ms f) (i := 2 ^ bad.length - 1)
  have h2 := wayN_tot (bad := bad) (ms := ms) (f := f) (show L.T ≤ 12 by omega) L.ps.length
  have h3 : 145 ^ L.ps.length ≤ 145 ^ 6 := Nat.pow_le_pow_right (by decide) k3.2
  have h4 := shortW_get (s := 2 ^ bad.length - 1) (wayN_short (L := L) (bad := bad) (ms := ms) (f := f) L.ps.length)
  unfold expM wayA at *
  omega
set_option maxHeartbeats 1000000 in
theorem run_explainedO {base : Nat} {h : Heap} {v g : AVal} {L : Lom} {bad : List Int} {ms : List (List Bool)} {f : Brk → Nat → Bool} (hb : base ≤ h.length) (hD : DeskAt h v L bad ms) (hL : DeskL L bad) (hf : Lets h g L bad f) :
    Ret prog raw base (.fn 80 [] []) [v, .agg [g]] h (fun w H => Ext h H ∧ ∃ z, w = .agg [.int .i64 ((expM L bad ms f).1 : Int), z] ∧ One z ∧ Own encB 75 h.length H z (expM L bad ms f).2) := by
  have hog := hf.1
  obtain ⟨h2, eh2⟩ : ∃ h2 : Heap, h2 = h ++ [⟨.cells [g] 141 false false, 0⟩] ++ [⟨.cells [.int .i64 0, .slice none 0 0] 148 false false, 0⟩] := ⟨_, rfl⟩
  have xh2 : Ext h h2 := by rw [eh2]; exact .app (.app .refl)
  obtain ⟨w1, H1, e1, x1, nid, vs, rfl, c1, c2⟩ := run_ways' (base := base) (h := h2) (by have := xh2.len; omega) (hD.ext xh2) hL (hf.ext xh2)
  obtain ⟨did, mid, pv, sv, bv, rfl, g1, g2, g3, g4, g5, g6, g7⟩ := hD
  have xh := xh2.trans x1
  have hn0 : 0 < 2 ^ bad.length := Nat.two_pow_pos _
  have hn1 : 2 ^ bad.length ≤ 2 ^ 10 := Nat.pow_le_pow_right (by decide) hL.2.1
  have hlw : (wayA L bad ms f).length = 2 ^ bad.length := wayN_len _
  rw [hlw] at e1
  obtain ⟨n, en⟩ : ∃ n, n = 2 ^ bad.length := ⟨_, rfl⟩
  have hsh := shlN (t := 3) (k := bad.length) (by have := hL.2.1; omega)
  rw [← en] at hn0 hn1 e1 hsh hlw
  obtain ⟨wv, w1, w2, w3, w4, w5⟩ := c2.get (i := n - 1) (by omega)
  have ldw := ldWA w1 w5
  rw [← c1, w2] at ldw
  have q1 := x1.get (show h2[h.length + 1]? = some ⟨.cells [.int .i64 0, .slice none 0 0] 148 false false, 0⟩ by rw [eh2]; simp)
  have q1l := lt_of_get q1
  have hlB := lenI (g4.ext xh)
  have g1' := xh.get g1
  rw [deskB] at g1'
  have hex : expM L bad ms f = (wayA L bad ms f).getD (n - 1) wy0 := by rw [en]; rfl
  have hnn : ((n : Int) - 1) = ((n - 1 : Nat) : Int) := by omega
  rw [hex]
  rw [eh2] at e1 x1
  refine ret_raw func80 rfl (by kernel_rfl) ?_
  have hsp := @Nat.succ_ne_zero; repeat' (first | simp (disch := first | exact dschE22 | fail) only [go_sem, ↓reduceIte, hsp, e1, hlB, g1', hsh, ldw, q1, hnn, Nat.zero_add] | refine WP_drw ?_ | refine cnd_intro (fun hsp => ?_) fun hsp => ?_)
  exact ⟨xh.set (by omega), wv.v, rfl, w5, (w3.setBox q1).low xh2.len⟩
theorem run_explained {base : Nat} {h : Heap} {v g : AVal} {L : Lom} {bad : List Int} {ms : List (List Bool)} {f : Brk → Nat → Bool} (hb : base ≤ h.length) (hD : DeskAt h v L bad ms) (hL : DeskL L bad) (hf : Lets h g L bad f) :
    Ret prog raw base (.fn 80 [] []) [v, .agg [g]] h (fun w H => Ext h H ∧ ∃ z, w = .agg [.int .i64 ((expM L bad ms f).1 : Int), z] ∧ One z ∧ Own encB 75 0 H z (expM L bad ms f).2) := by
  obtain ⟨w, H, e, x, z, q, o, r⟩ := run_explainedO (base := base) hb hD hL hf
  exact ⟨w, H, e, x, z, q, o, r.low (Nat.zero_le _)⟩
theorem run_all1 {base : Nat} {H : Heap} {b : Brk} {x : Nat} : callL prog raw base (.fn 141 [] []) [.agg (mdC b x)] H = some (.bool true, H) := by
  simp only [mdC]
  refine callL_run func141 rfl rfl ?_
  have hsp := @Nat.succ_ne_zero; repeat' (first | simp (disch := first | exact dschE22 | fail) only [go_sem, ↓reduceIte, hsp] | refine WP_drw ?_ | refine cnd_intro (fun hsp => ?_) fun hsp => ?_)
  exact fB rfl
def allF : Brk → Nat → Bool := fun _ _ => true
theorem lets_all {h : Heap} {L : Lom} {bad : List Int} : Lets h (.fn 141 [] []) L bad allF := ⟨⟨rfl, rfl, rfl⟩, fun base H b x _ _ _ _ => run_all1⟩
theorem run_allF {base : Nat} {h : Heap} (hb : base ≤ h.length) : callL prog raw base (.fn 88 [] []) [] h = some (.agg [.fn 141 [] []], h ++ [⟨.cells [.fn 141 [] []] 141 false false, 0⟩]) := by
  have ho : One (.fn 141 [] []) := ⟨rfl, rfl, rfl⟩
  refine callL_raw func88 rfl (by kernel_rfl) ?_
  have hsp := @Nat.succ_ne_zero; repeat' (first | simp (disch := first | exact dschE22 | fail) only [go_sem, ↓reduceIte, hsp] | refine WP_drw ?_ | refine cnd_intro (fun hsp => ?_) fun hsp => ?_)
/-- What the desk of a whole loom says. -/
def expA (L : Lom) (f : Brk → Nat → Bool) : Way := expM L (deskA L).1 (deskA L).2 f
/-- fault.told: the error. -/
def tolE (L : Lom) (b : Bool) : Int := if chkM L ≠ 0 then chkM L else if b = true then 1 else if (expA L allF).1 = 0 then 7 else 0
theorem tolE_ok {L : Lom} {b : Bool} (h : tolE L b = 0) : chkM L = 0 ∧ b = false ∧ (expA L allF).1 ≠ 0 := by
  unfold tolE at h
  split at h
  · rename_i q; exact absurd h q
  · split at h
    · cases h
    · split at h
      · cases h
      · rename_i q1 q2 q3; exact ⟨Classical.not_not.1 q1, by simpa using q2, q3⟩
set_option maxHeartbeats 1000000 in
theorem run_told {base : Nat} {h : Heap} {v : AVal} {L : Lom} {b : Bool} (hb : base ≤ h.length) (hL : LomAt h v L) (hok : LomOk L) :
    Ret prog raw base (.fn 74 [] []) [v, .bool b] h (fun w H => Ext h H ∧ ∃ x, w = .tuple [x, .int .i64 (tolE L b)] ∧ One x ∧ (tolE L b = 0 → DeskAt H x L (deskA L).1 (deskA L).2)) := by
  obtain ⟨pv, sv, rfl, hP, hS⟩ := id hL
  obtain ⟨w1, H1, e1, x1, y, rfl, ho, hd⟩ := run_opened (base := base) (h := h ++ [⟨.cells [.int .i64 L.R, .int .i64 L.T, pv, sv] 25 false false, 0⟩]) (by simp; omega) (hL.ext (.app .refl)) hok
  have xh := (Ext.app (t := [⟨.cells [.int .i64 L.R, .int .i64 L.T, pv, sv] 25 false false, 0⟩]) (Ext.refl (h := h))).trans x1
  have hbH : base ≤ H1.length := by have := xh.len; omega
  by_cases c1 : chkM L = 0
  · rw [c1] at e1
    have hD := hd c1
    cases b with
    | true =>
      have r : tolE L true = 1 := by unfold tolE; rw [if_neg (by simp [c1]), if_pos rfl]
      rw [r]
      refine ret_raw func74 rfl (by kernel_rfl) ?_
      have hsp := @Nat.succ_ne_zero; repeat' (first | simp (disch := first | exact dschE22 | fail) only [go_sem, ↓reduceIte, hsp, e1, eq_self] | refine WP_drw ?_ | refine cnd_intro (fun hsp => ?_) fun hsp => ?_)
      exact ⟨xh, _, rfl, ⟨rfl, rfl, rfl⟩, fun q => by cases q⟩
    | false =>
      have ha := run_allF (base := base) (h := H1) hbH
      obtain ⟨w2, H2, e2, x2, z, rfl, hz, _⟩ := run_explained (base := base) (h := H1 ++ [⟨.cells [.fn 141 [] []] 141 false false, 0⟩]) (by simp; omega) (hD.ext (.app .refl)) (deskL_A c1 hok) lets_all
      have ex : expM L (deskA L).1 (deskA L).2 allF = expA L allF := rfl
      rw [ex] at e2
      have xh2 := xh.trans ((Ext.app .refl).trans x2)
      by_cases c2 : (expA L allF).1 = 0
      · have t2 : (((expA L allF).1 : Int) = 0) = True := eq_true (by omega)
        have r : tolE L false = 7 := by unfold tolE; rw [if_neg (by simp [c1]), if_neg (by simp), if_pos c2]
        rw [r]
        refine ret_raw func74 rfl (by kernel_rfl) ?_
        have hsp := @Nat.succ_ne_zero; repeat' (first | simp (disch := first | exact dschE22 | fail) only [go_sem, ↓reduceIte, hsp, e1, eq_self, ha, e2, t2] | refine WP_drw ?_ | refine cnd_intro (fun hsp => ?_) fun hsp => ?_)
        exact ⟨xh2, _, rfl, ⟨rfl, rfl, rfl⟩, fun q => by cases q⟩
      · have t2 : (((expA L allF).1 : Int) = 0) = False := eq_false (by omega)
        have r : tolE L false = 0 := by unfold tolE; rw [if_neg (by simp [c1]), if_neg (by simp), if_neg c2]
        rw [r]
        refine ret_raw func74 rfl (by kernel_rfl) ?_
        have hsp := @Nat.succ_ne_zero; repeat' (first | simp (disch := first | exact dschE22 | fail) only [go_sem, ↓reduceIte, hsp, e1, eq_self, ha, e2, t2] | refine WP_drw ?_ | refine cnd_intro (fun hsp => ?_) fun hsp => ?_)
        exact ⟨xh2, y, rfl, ho, fun _ => hD.ext ((Ext.app .refl).trans x2)⟩
  · have t1 : (chkM L = 0) = False := eq_false c1
    have r : tolE L b = chkM L := by unfold tolE; rw [if_pos c1]
    rw [r]
    refine ret_raw func74 rfl (by kernel_rfl) ?_
    have hsp := @Nat.succ_ne_zero; repeat' (first | simp (disch := first | exact dschE22 | fail) only [go_sem, ↓reduceIte, hsp, e1, t1] | refine WP_drw ?_ | refine cnd_intro (fun hsp => ?_) fun hsp => ?_)
    exact ⟨xh, _, rfl, ⟨rfl, rfl, rfl⟩, fun q => q.elim⟩
/-- fault.Count. -/
def cntM (L : Lom) : Int × Int := if chkM L ≠ 0 then (0, chkM L) else (((expA L allF).1 : Int), 0)
/-- fault.Fewest. -/
def fewM (L : Lom) : List Brk × Int := if tolE L false ≠ 0 then ([], tolE L false) else ((expA L allF).2, 0)
theorem run_fewestO {base : Nat} {h : Heap} {v : AVal} {L : Lom} (hb : base ≤ h.length) (hL : LomAt h v L) (hok : LomOk L) :
    Ret prog raw base (.fn 31 [] []) [v] h (fun w H => Ext h H ∧ ∃ x, w = .tuple [x, .int .i64 (fewM L).2] ∧ Own encB 75 h.length H x (fewM L).1) := by
  obtain ⟨pv, sv, rfl, hP, hS⟩ := id hL
  have hp1 := hP.one
  have hs1 := hS.one
  obtain ⟨w1, H1, e1, x1, y, rfl, ho, hd⟩ := run_told (base := base) (h := h ++ [⟨.cells [.int .i64 L.R, .int .i64 L.T, pv, sv] 25 false false, 0⟩]) (b := false) (by simp; omega) (hL.ext (.app .refl)) hok
  have xh := (Ext.app (t := [⟨.cells [.int .i64 L.R, .int .i64 L.T, pv, sv] 25 false false, 0⟩]) (Ext.refl (h := h))).trans x1
  have hbH : base ≤ H1.length := by have := xh.len; omega
  by_cases c1 : tolE L false = 0
  · rw [c1] at e1
    have hD := hd c1
    have ha := run_allF (base := base) (h := H1) hbH
    obtain ⟨w2, H2, e2, x2, z, rfl, hz, hoz⟩ := run_explainedO (base := base) (h := H1 ++ [⟨.cells [.fn 141 [] []] 141 false false, 0⟩]) (by simp; omega) (hD.ext (.app .refl)) (deskL_A (tolE_ok c1).1 hok) lets_all
    have ex : expM L (deskA L).1 (deskA L).2 allF = expA L allF := rfl
    rw [ex] at e2 hoz
    have xh2 := xh.trans ((Ext.app .refl).trans x2)
    have r : fewM L = ((expA L allF).2, 0) := by unfold fewM; rw [if_neg (by simp [c1])]
    rw [r]
    refine ret_raw func31 rfl (by kernel_rfl) ?_
    have hsp := @Nat.succ_ne_zero; repeat' (first | simp (disch := first | exact dschE22 | fail) only [go_sem, ↓reduceIte, hsp, e1, eq_self, ha, e2] | refine WP_drw ?_ | refine cnd_intro (fun hsp => ?_) fun hsp => ?_)
    exact ⟨xh2, z, rfl, hoz.low (by have := xh.len; simp only [List.length_append]; omega)⟩
  · have t1 : (tolE L false = 0) = False := eq_false c1
    have r : fewM L = ([], tolE L false) := by unfold fewM; rw [if_pos c1]
    rw [r]
    refine ret_raw func31 rfl (by kernel_rfl) ?_
    have hsp := @Nat.succ_ne_zero; repeat' (first | simp (disch := first | exact dschE22 | fail) only [go_sem, ↓reduceIte, hsp, e1, t1] | refine WP_drw ?_ | refine cnd_intro (fun hsp => ?_) fun hsp => ?_)
    exact ⟨xh, _, rfl, Own.nil⟩
theorem run_fewest {base : Nat} {h : Heap} {v : AVal} {L : Lom} (hb : base ≤ h.length) (hL : LomAt h v L) (hok : LomOk L) :
    Ret prog raw base (.fn 31 [] []) [v] h (fun w H => Ext h H ∧ ∃ x, w = .tuple [x, .int .i64 (fewM L).2] ∧ Own encB 75 0 H x (fewM L).1) := by
  obtain ⟨w, H, e, x, z, q, o⟩ := run_fewestO (base := base) hb hL hok
  exact ⟨w, H, e, x, z, q, o.low (Nat.zero_le _)⟩
end Go.AM
/-
  Contracts: Must, Surely.
-/
namespace Go.AM
open Go.Proofs.Tryz
theorem dschE23 {p : Prop} (h : p := by first | exact Nat.ne_of_beq_eq_false rfl | assumption | (apply asOne; (first | exact One.int | exact One.bool | assumption | exact Ints.one (by assumption) | exact Rows.one (by assumption) | exact Own.one (by assumption) | exact One.lit ⟨rfl, rfl, rfl⟩)) | (apply asInts; (repeat first | assumption | exact ints_nil | apply Ints.app); done) | (apply asRows; (repeat first | assumption | exact Rows.nil | apply Rows.app); done) | (apply asScal; (first | apply allS1 | apply allS2 | apply allS3 | apply allS4) <;> (first | exact One.int | exact One.bool | assumption | exact Ints.one (by assumption) | exact Rows.one (by assumption) | exact Own.one (by assumption) | exact One.lit ⟨rfl, rfl, rfl⟩)) | exact litT rfl | exact litF rfl | omega | (simp only [List.length_append, List.length_cons, List.length_nil, List.length_set, List.length_reverse]; first | done | omega) | fail) : p := h
attribute [-go_sem] put_ne put_same
attribute [local go_sem ↓] put_if
/-- Numbers that are picked out. -/
def selN (p : Nat → Bool) (g : Nat → Int) : Nat → List Int
  | 0 => []
  | n + 1 => selN p g n ++ if p n = true then [g n] else []
theorem selN_len {p : Nat → Bool} {g : Nat → Int} : ∀ n, (selN p g n).length ≤ n
  | 0 => Nat.le_refl _
  | n + 1 => by
    have := selN_len (p := p) (g := g) n
    simp only [selN, List.length_append]
    split <;> simp <;> omega
theorem selN_mem {p : Nat → Bool} {g : Nat → Int} {x : Int} : ∀ {n}, x ∈ selN p g n ↔ ∃ i, i < n ∧ p i = true ∧ x = g i
  | 0 => by simp [selN]
  | n + 1 => by
    rw [selN, List.mem_append, selN_mem]
    constructor
    · rintro (⟨i, h1, h2⟩ | h)
      · exact ⟨i, by omega, h2⟩
      · split at h
        · rename_i hp; simp at h; exact ⟨n, by omega, hp, h⟩
        · cases h
    · rintro ⟨i, h1, h2, rfl⟩
      by_cases e : i = n
      · subst e; rw [if_pos h2]; exact .inr (by simp)
      · exact .inl ⟨i, by omega, h2, rfl⟩
/-! ### Must -/
def mstF (k : Int) : Brk → Nat → Bool := fun b _ => decide (b.1 ≠ k)
theorem lets_must {h : Heap} {id k : Nat} {L : Lom} {bad : List Int} (hg : h[id]? = some (intB k)) : Lets h (.fn 83 [] [.ptr (some ⟨id, 0, 0⟩)]) L bad (mstF k) := by
  refine ⟨⟨rfl, rfl, rfl⟩, fun base H b x e _ _ _ => ?_⟩
  have hg2 := e.get hg
  rw [intB] at hg2
  have hlt := lt_of_get hg2
  simp only [mdC]
  refine callL_run func83 rfl rfl ?_
  have hsp := @Nat.succ_ne_zero; repeat' (first | simp (disch := first | exact dschE23 | fail) only [go_sem, ↓reduceIte, hsp, hg2] | refine WP_drw ?_ | refine cnd_intro (fun hsp => ?_) fun hsp => ?_)
  exact fB rfl
/-- fault.Must. -/
def mstM (L : Lom) : List Int × Int := if tolE L false ≠ 0 then ([], tolE L false) else (selN (fun k => decide ((expA L (mstF k)).1 = 0)) (fun k => (k : Int)) L.ps.length, 0)
set_option maxHeartbeats 1000000 in
theorem run_must {base : Nat} {h : Heap} {v : AVal} {L : Lom} (hb : base ≤ h.length) (hL : LomAt h v L) (hok : LomOk L) :
    Ret prog raw base (.fn 23 [] []) [v] h (fun w H => Ext h H ∧ ∃ x, w = .tuple [x, .int .i64 (mstM L).2] ∧ Own encI 3 h.length H x (mstM L).1) := by
  obtain ⟨pv, sv, rfl, hP, hS⟩ := id hL
  have hp1 := hP.one
  have hs1 := hS.one
  obtain ⟨w1, H1, e1, x1, y, rfl, ho, hd⟩ := run_told (base := base) (h := h ++ [⟨.cells [.int .i64 L.R, .int .i64 L.T, pv, sv] 25 false false, 0⟩]) (b := false) (by simp; omega) (hL.ext (.app .refl)) hok
  have xh := (Ext.app (t := [⟨.cells [.int .i64 L.R, .int .i64 L.T, pv, sv] 25 false false, 0⟩]) (Ext.refl (h := h))).trans x1
  have hH1l := xh.len
  have g0 : H1[h.length]? = some ⟨.cells [.int .i64 L.R, .int .i64 L.T, pv, sv] 25 false false, 0⟩ := x1.get (by simp)
  by_cases c1 : tolE L false = 0
  · rw [c1] at e1
    have hD := hd c1
    obtain ⟨k1, k2, k3, k4, k5, k6⟩ := chkM_ok (tolE_ok c1).1
    have hlP := (hP.ext xh).len
    have r : mstM L = (selN (fun k => decide ((expA L (mstF k)).1 = 0)) (fun k => (k : Int)) L.ps.length, 0) := by unfold mstM; rw [if_neg (by simp [c1])]
    rw [r]
    refine ret_raw func23 rfl (by kernel_rfl) ?_
    have hsp := @Nat.succ_ne_zero; repeat' (first | simp (disch := first | exact dschE23 | fail) only [go_sem, ↓reduceIte, hsp, e1, eq_self, g0, hlP] | refine WP_drw ?_ | refine cnd_intro (fun hsp => ?_) fun hsp => ?_)
    refine WP_count [(6, 7), (19, 32)] 0 L.ps.length (Nat.zero_le _) (fun _ i fr h' => fr 19 = .int .i64 (i : Int) ∧ Ext H1 h' ∧ ∃ v, fr 6 = v ∧ Own encI 3 H1.length h' v (selN (fun k => decide ((expA L (mstF k)).1 = 0)) (fun k => (k : Int)) i)) ?_ ?_ ?_
    · exact ⟨by (simp (disch := first | exact dschE23 | fail) only [go_sem, ↓reduceIte, Int.natCast_zero]; first | done | rfl), .refl, .slice none 0 0, by simp (disch := first | exact dschE23 | fail) only [go_sem, ↓reduceIte], Own.nil⟩
    · rintro i fr H hi0 hi hA ⟨r19, xH, v, r6, hO⟩
      have p2 := hA 2 rfl
      have p3 := hA 3 rfl
      have p4 := hA 4 rfl
      have p18 := hA 18 rfl
      try simp (disch := first | exact dschE23 | fail) only [go_sem, ↓reduceIte] at p2 p3 p4 p18
      have hlt : ((i : Int) < (L.ps.length : Int)) = True := eq_true (by omega)
      have hHl := xH.len
      obtain ⟨w2, H2, e2, x2, z, rfl, hz, hoz⟩ := run_explained (base := base) (h := H ++ [intB i]) (by simp; omega) (hD.ext (xH.trans (.app .refl))) (deskL_A (tolE_ok c1).1 hok) (lets_must (h := H ++ [intB i]) (id := H.length) (k := i) (by simp))
      have ex : expM L (deskA L).1 (deskA L).2 (mstF i) = expA L (mstF i) := rfl
      rw [ex, intB] at e2
      have hO2 := hO.ext ((Ext.app .refl).trans x2)
      have xH2 := xH.trans ((Ext.app .refl).trans x2)
      have hH2l := xH2.len
      have g7 : H2[H.length]? = some ⟨.cells [.int .i64 (i : Int)] 3 false false, 0⟩ := x2.get (by simp [intB])
      have hll := selN_len (p := fun k => decide ((expA L (mstF k)).1 = 0)) (g := fun k => (k : Int)) i
      by_cases c2 : (expA L (mstF i)).1 = 0
      · have t2 : (((expA L (mstF i)).1 : Int) = 0) = True := eq_true (by omega)
        obtain ⟨v', h', ea, hO', hle, hE, h1'⟩ := hO2.append1 (y := (i : Int)) (base := base) (t := 36) rfl rfl Fc.el36 encI_sc (by omega) (by omega) (by omega)
        have hsp := @Nat.succ_ne_zero; repeat' (first | simp (disch := first | exact dschE23 | fail) only [go_sem, ↓reduceIte, hsp, r19, r6, p2, p3, p4, p18, hlt, e2, t2, g7, ea] | refine WP_drw ?_ | refine cnd_intro (fun hsp => ?_) fun hsp => ?_)
        refine ⟨by (repeat first | exact Agree.refl | assumption | refine Agree.put rfl ?_ | refine Agree.put0 ?_ | refine Agree.sub rfl (by assumption) ?_), by omega, hE H1 (Nat.le_refl _) xH2, v', rfl, ?_⟩
        rw [selN, decide_eq_true c2, if_pos rfl]; exact hO'
      · have t2 : (((expA L (mstF i)).1 : Int) = 0) = False := eq_false (by omega)
        have hsp := @Nat.succ_ne_zero; repeat' (first | simp (disch := first | exact dschE23 | fail) only [go_sem, ↓reduceIte, hsp, r19, r6, p2, p3, p4, p18, hlt, e2, t2] | refine WP_drw ?_ | refine cnd_intro (fun hsp => ?_) fun hsp => ?_)
        refine ⟨by (repeat first | exact Agree.refl | assumption | refine Agree.put rfl ?_ | refine Agree.put0 ?_ | refine Agree.sub rfl (by assumption) ?_), by omega, xH2, v, rfl, ?_⟩
        rw [selN, decide_eq_false c2, if_neg (by simp), List.append_nil]; exact hO2
    · rintro fr H hA ⟨r19, xH, v, r6, hO⟩
      have p2 := hA 2 rfl
      have p3 := hA 3 rfl
      have p4 := hA 4 rfl
      have p18 := hA 18 rfl
      try simp (disch := first | exact dschE23 | fail) only [go_sem, ↓reduceIte] at p2 p3 p4 p18
      have hlt : ((L.ps.length : Int) < (L.ps.length : Int)) = False := eq_false (by omega)
      have hsp := @Nat.succ_ne_zero; repeat' (first | simp (disch := first | exact dschE23 | fail) only [go_sem, ↓reduceIte, hsp, r19, r6, p2, p3, p4, p18, hlt] | refine WP_drw ?_ | refine cnd_intro (fun hsp => ?_) fun hsp => ?_)
      exact ⟨xh.trans xH, v, rfl, hO.low (by omega)⟩
  · have t1 : (tolE L false = 0) = False := eq_false c1
    have r : mstM L = ([], tolE L false) := by unfold mstM; rw [if_pos c1]
    rw [r]
    refine ret_raw func23 rfl (by kernel_rfl) ?_
    have hsp := @Nat.succ_ne_zero; repeat' (first | simp (disch := first | exact dschE23 | fail) only [go_sem, ↓reduceIte, hsp, e1, t1] | refine WP_drw ?_ | refine cnd_intro (fun hsp => ?_) fun hsp => ?_)
    exact ⟨xh, _, rfl, Own.nil⟩
/-! ### Surely -/
def sryF (k t : Int) : Brk → Nat → Bool := fun b _ => decide (b.1 ≠ k) || !decide (b.2.1 ≤ t ∧ t ≤ b.2.2)
theorem lets_surely {h : Heap} {id id2 : Nat} {k t : Int} {L : Lom} {bad : List Int} (hg : h[id]? = some (intB k)) (hg2 : h[id2]? = some (intB t)) : Lets h (.fn 81 [] [.ptr (some ⟨id, 0, 0⟩), .ptr (some ⟨id2, 0, 0⟩)]) L bad (sryF k t) := by
  refine ⟨⟨rfl, rfl, rfl⟩, fun base H b x e _ _ _ => ?_⟩
  have q1 := e.get hg
  have q2 := e.get hg2
  rw [intB] at q1 q2
  have hlt := lt_of_get q1
  have hlt2 := lt_of_get q2
  simp only [mdC]
  refine callL_run func81 rfl rfl ?_
  by_cases c1 : b.1 = k
  · have t1 : (b.1 = k) = True := eq_true c1
    have hsp := @Nat.succ_ne_zero; repeat' (first | simp (disch := first | exact dschE23 | fail) only [go_sem, ↓reduceIte, hsp, q1, q2, t1] | refine WP_drw ?_ | refine cnd_intro (fun hsp => ?_) fun hsp => ?_)
    all_goals (refine fB ?_; unfold sryF; simp_all)
  · have t1 : (b.1 = k) = False := eq_false c1
    have hsp := @Nat.succ_ne_zero; repeat' (first | simp (disch := first | exact dschE23 | fail) only [go_sem, ↓reduceIte, hsp, q1, q2, t1] | refine WP_drw ?_ | refine cnd_intro (fun hsp => ?_) fun hsp => ?_)
    all_goals (refine fB ?_; unfold sryF; simp_all)
def prtB (L : Lom) (k : Int) : Bool := !decide (0 ≤ k ∧ k ≤ (L.ps.length : Int) - 1)
/-- fault.Surely. -/
def sryM (L : Lom) (k : Int) : List Int × Int := if tolE L (prtB L k) ≠ 0 then ([], tolE L (prtB L k)) else (selN (fun t => decide ((expA L (sryF k t)).1 = 0)) (fun t => (t : Int)) L.T.toNat, 0)
set_option maxHeartbeats 1000000 in
theorem run_surely {base : Nat} {h : Heap} {v : AVal} {L : Lom} {k : Int} (hb : base ≤ h.length) (hL : LomAt h v L) (hok : LomOk L) :
    Ret prog raw base (.fn 22 [] []) [v, .int .i64 k] h (fun w H => Ext h H ∧ ∃ x, w = .tuple [x, .int .i64 (sryM L k).2] ∧ Own encI 3 h.length H x (sryM L k).1) := by
  obtain ⟨pv, sv, rfl, hP, hS⟩ := id hL
  have hp1 := hP.one
  have hs1 := hS.one
  obtain ⟨w1, H1, e1, x1, y, rfl, ho, hd⟩ := run_told (base := base) (h := h ++ [⟨.cells [.int .i64 L.R, .int .i64 L.T, pv, sv] 25 false false, 0⟩] ++ [⟨.cells [.int .i64 k] 3 false false, 0⟩]) (b := prtB L k) (by simp; omega) (hL.ext (.app (.app .refl))) hok
  have xh := (Ext.app (t := [⟨.cells [.int .i64 k] 3 false false, 0⟩]) (Ext.app (t := [⟨.cells [.int .i64 L.R, .int .i64 L.T, pv, sv] 25 false false, 0⟩]) (Ext.refl (h := h)))).trans x1
  have hH1l := xh.len
  have g0 : H1[h.length]? = some ⟨.cells [.int .i64 L.R, .int .i64 L.T, pv, sv] 25 false false, 0⟩ := x1.get (by simp)
  have g1 : H1[h.length + 1]? = some (intB k) := x1.get (by simp [intB])
  have hpt : ∀ {base : Nat} {a c : ABlk}, callL prog raw base (.fn 75 [] []) [lomV L.R L.T pv sv, .int .i64 k] (h ++ [a] ++ [c]) = some (.bool (!prtB L k), h ++ [a] ++ [c]) := fun {base a c} => by
    have := run_part (base := base) (R := L.R) (T := L.T) (n := k) (hP.ext (.app (.app .refl) : Ext h (h ++ [a] ++ [c]))) hs1 hok.2.1
    unfold prtB
    rw [Bool.not_not]
    exact this
  by_cases c1 : tolE L (prtB L k) = 0
  · rw [c1] at e1
    have hD := hd c1
    have hpb := (tolE_ok c1).2.1
    rw [hpb] at hpt
    rw [hpb] at e1
    obtain ⟨k1, k2, k3, k4, k5, k6⟩ := chkM_ok (tolE_ok c1).1
    obtain ⟨T, eT⟩ := Int.eq_ofNat_of_zero_le (show 0 ≤ L.T by omega)
    have r : sryM L k = (selN (fun t => decide ((expA L (sryF k t)).1 = 0)) (fun t => (t : Int)) T, 0) := by unfold sryM; rw [if_neg (by simp [c1]), show L.T.toNat = T by omega]
    rw [r]
    refine ret_raw func22 rfl (by kernel_rfl) ?_
    have hsp := @Nat.succ_ne_zero; repeat' (first | simp (disch := first | exact dschE23 | fail) only [go_sem, ↓reduceIte, hsp, hpt, e1, eq_self, g0] | refine WP_drw ?_ | refine cnd_intro (fun hsp => ?_) fun hsp => ?_)
    refine WP_count [(8, 9), (24, 37)] 0 T (Nat.zero_le _) (fun _ i fr h' => fr 24 = .int .i64 (i : Int) ∧ Ext H1 h' ∧ ∃ v, fr 8 = v ∧ Own encI 3 H1.length h' v (selN (fun t => decide ((expA L (sryF k t)).1 = 0)) (fun t => (t : Int)) i)) ?_ ?_ ?_
    · exact ⟨by (simp (disch := first | exact dschE23 | fail) only [go_sem, ↓reduceIte, Int.natCast_zero]; first | done | rfl), .refl, .slice none 0 0, by simp (disch := first | exact dschE23 | fail) only [go_sem, ↓reduceIte], Own.nil⟩
    · rintro i fr H hi0 hi hA ⟨r24, xH, v, r8, hO⟩
      have p3 := hA 3 rfl
      have p4 := hA 4 rfl
      have p5 := hA 5 rfl
      have p6 := hA 6 rfl
      have p23 := hA 23 rfl
      try simp (disch := first | exact dschE23 | fail) only [go_sem, ↓reduceIte] at p3 p4 p5 p6 p23
      have hlt : ((i : Int) < L.T) = True := eq_true (by omega)
      have hHl := xH.len
      obtain ⟨w2, H2, e2, x2, z, rfl, hz, hoz⟩ := run_explained (base := base) (h := H ++ [intB i]) (by simp; omega) (hD.ext (xH.trans (.app .refl))) (deskL_A (tolE_ok c1).1 hok) (lets_surely (h := H ++ [intB i]) (id := h.length + 1) (id2 := H.length) (k := k) (t := i) (get_app (xH.get g1)) (by simp))
      have ex : expM L (deskA L).1 (deskA L).2 (sryF k i) = expA L (sryF k i) := rfl
      rw [ex, intB] at e2
      have hO2 := hO.ext ((Ext.app .refl).trans x2)
      have xH2 := xH.trans ((Ext.app .refl).trans x2)
      have hH2l := xH2.len
      have g7 : H2[H.length]? = some ⟨.cells [.int .i64 (i : Int)] 3 false false, 0⟩ := x2.get (by simp [intB])
      have hll := selN_len (p := fun t => decide ((expA L (sryF k t)).1 = 0)) (g := fun k => (k : Int)) i
      by_cases c2 : (expA L (sryF k i)).1 = 0
      · have t2 : (((expA L (sryF k i)).1 : Int) = 0) = True := eq_true (by omega)
        obtain ⟨v', h', ea, hO', hle, hE, h1'⟩ := hO2.append1 (y := (i : Int)) (base := base) (t := 36) rfl rfl Fc.el36 encI_sc (by omega) (by omega) (by omega)
        have hsp := @Nat.succ_ne_zero; repeat' (first | simp (disch := first | exact dschE23 | fail) only [go_sem, ↓reduceIte, hsp, r24, r8, p3, p4, p5, p6, p23, hlt, e2, t2, g7, ea] | refine WP_drw ?_ | refine cnd_intro (fun hsp => ?_) fun hsp => ?_)
        refine ⟨by (repeat first | exact Agree.refl | assumption | refine Agree.put rfl ?_ | refine Agree.put0 ?_ | refine Agree.sub rfl (by assumption) ?_), by omega, hE H1 (Nat.le_refl _) xH2, v', rfl, ?_⟩
        rw [selN, decide_eq_true c2, if_pos rfl]; exact hO'
      · have t2 : (((expA L (sryF k i)).1 : Int) = 0) = False := eq_false (by omega)
        have hsp := @Nat.succ_ne_zero; repeat' (first | simp (disch := first | exact dschE23 | fail) only [go_sem, ↓reduceIte, hsp, r24, r8, p3, p4, p5, p6, p23, hlt, e2, t2] | refine WP_drw ?_ | refine cnd_intro (fun hsp => ?_) fun hsp => ?_)
        refine ⟨by (repeat first | exact Agree.refl | assumption | refine Agree.put rfl ?_ | refine Agree.put0 ?_ | refine Agree.sub rfl (by assumption) ?_), by omega, xH2, v, rfl, ?_⟩
        rw [selN, decide_eq_false c2, if_neg (by simp), List.append_nil]; exact hO2
    · rintro fr H hA ⟨r24, xH, v, r8, hO⟩
      have p3 := hA 3 rfl
      have p4 := hA 4 rfl
      have p5 := hA 5 rfl
      have p6 := hA 6 rfl
      have p23 := hA 23 rfl
      try simp (disch := first | exact dschE23 | fail) only [go_sem, ↓reduceIte] at p3 p4 p5 p6 p23
      have hlt : ((T : Int) < L.T) = False := eq_false (by omega)
      have hsp := @Nat.succ_ne_zero; repeat' (first | simp (disch := first | exact dschE23 | fail) only [go_sem, ↓reduceIte, hsp, r24, r8, p3, p4, p5, p6, p23, hlt] | refine WP_drw ?_ | refine cnd_intro (fun hsp => ?_) fun hsp => ?_)
      exact ⟨xh.trans xH, v, rfl, hO.low (by omega)⟩
  · have t1 : (tolE L (prtB L k) = 0) = False := eq_false c1
    have r : sryM L k = ([], tolE L (prtB L k)) := by unfold sryM; rw [if_pos c1]
    rw [r]
    refine ret_raw func22 rfl (by kernel_rfl) ?_
    have hsp := @Nat.succ_ne_zero; repeat' (first | simp (disch := first | exact dschE23 | fail) only [go_sem, ↓reduceIte, hsp, hpt, Bool.not_not, e1, t1] | refine WP_drw ?_ | refine cnd_intro (fun hsp => ?_) fun hsp => ?_)
    exact ⟨xh, _, rfl, Own.nil⟩
end Go.AM
/-
  Contracts: where a break of a part can last (Can).
-/
namespace Go.AM
open Go.Proofs.Tryz
theorem dschE24 {p : Prop} (h : p := by first | exact Nat.ne_of_beq_eq_false rfl | assumption | (apply asOne; (first | exact One.int | exact One.bool | assumption | exact Ints.one (by assumption) | exact Rows.one (by assumption) | exact Own.one (by assumption) | exact One.lit ⟨rfl, rfl, rfl⟩)) | (apply asInts; (repeat first | assumption | exact ints_nil | apply Ints.app); done) | (apply asRows; (repeat first | assumption | exact Rows.nil | apply Rows.app); done) | (apply asScal; (first | apply allS1 | apply allS2 | apply allS3 | apply allS4) <;> (first | exact One.int | exact One.bool | assumption | exact Ints.one (by assumption) | exact Rows.one (by assumption) | exact Own.one (by assumption) | exact One.lit ⟨rfl, rfl, rfl⟩)) | exact litT rfl | exact litF rfl | omega | (simp only [List.length_append, List.length_cons, List.length_nil, List.length_set, List.length_reverse]; first | done | omega) | fail) : p := h
attribute [-go_sem] put_ne put_same
attribute [local go_sem ↓] put_if
theorem lets_can {h : Heap} {id : Nat} {k : Int} {L : Lom} {bad : List Int} (hg : h[id]? = some (intB k)) : Lets h (.fn 77 [] [.ptr (some ⟨id, 0, 0⟩)]) L bad (mstF k) := by
  refine ⟨⟨rfl, rfl, rfl⟩, fun base H b x e _ _ _ => ?_⟩
  have hg2 := e.get hg
  rw [intB] at hg2
  have hlt := lt_of_get hg2
  simp only [mdC]
  refine callL_run func77 rfl rfl ?_
  have hsp := @Nat.succ_ne_zero; repeat' (first | simp (disch := first | exact dschE24 | fail) only [go_sem, ↓reduceIte, hsp, hg2] | refine WP_drw ?_ | refine cnd_intro (fun hsp => ?_) fun hsp => ?_)
  exact fB rfl
/-- n places from a on are marked. -/
def markC (m : List Bool) (a : Nat) : Nat → List Bool
  | 0 => m
  | n + 1 => (markC m a n).set (a + n) true
theorem markC_len {m : List Bool} {a : Nat} : ∀ n, (markC m a n).length = m.length
  | 0 => rfl
  | n + 1 => by rw [markC, List.length_set, markC_len n]
/-- A break with all sets of others. -/
def setC (l : List Way) (b : Brk) (x : Nat) (m : List Bool) : Nat → List Bool
  | 0 => m
  | s + 1 => if 0 < (l.getD s wy0).1 ∧ s ||| x = l.length - 1 then markC (setC l b x m s) b.2.1.toNat (b.2.2 + 1 - b.2.1).toNat else setC l b x m s
theorem setC_len {l : List Way} {b : Brk} {x : Nat} {m : List Bool} : ∀ s, (setC l b x m s).length = m.length
  | 0 => rfl
  | s + 1 => by
    rw [setC]
    split
    · rw [markC_len, setC_len s]
    · exact setC_len s
def canJ (l : List Way) (mds : List (Brk × Nat)) : Nat → List Bool
  | 0 => List.replicate 12 false
  | j + 1 => setC l (mds.getD j (brk0, 0)).1 (mds.getD j (brk0, 0)).2 (canJ l mds j) l.length
theorem canJ_len {l : List Way} {mds : List (Brk × Nat)} : ∀ j, (canJ l mds j).length = 12
  | 0 => by simp [canJ]
  | j + 1 => by rw [canJ, setC_len, canJ_len j]
/-- fault.Can. -/
def canA (L : Lom) (k : Nat) : List Bool := canJ (wayA L (deskA L).1 (deskA L).2 (mstF k)) (made L (deskA L).1 (deskA L).2 k) (made L (deskA L).1 (deskA L).2 k).length
def canM (L : Lom) (k : Int) : List Int × Int := if tolE L (prtB L k) ≠ 0 then ([], tolE L (prtB L k)) else (numsN (canA L k.toNat) L.T.toNat, 0)
def thB (m : List Bool) : ABlk := ⟨.cells (m.map .bool) 143 false false, 0⟩
/-- What holds while the breaks are gone through. -/
def CI (H2 : Heap) (v : AVal) (p : Nat) (fr : Bool) (N nid n : Nat) (m : List Bool) (H : Heap) : Prop := H2.length = N ∧ Ext H2 H ∧ BoxAt H (N + 2) (N + 4) (N + 3) v p fr ∧ H[N]? = some (slB nid n) ∧ H[N + 1]? = some (thB m)
section
variable {H2 H H' : Heap} {v : AVal} {p N nid n : Nat} {fr : Bool} {m m' : List Bool}
theorem CI.ext (x : CI H2 v p fr N nid n m H) (e : Ext H H') : CI H2 v p fr N nid n m H' := ⟨x.1, x.2.1.trans e, x.2.2.1.ext e, e.get x.2.2.2.1, e.get x.2.2.2.2⟩
theorem CI.set5 {k : ABlk} (x : CI H2 v p fr N nid n m H) : CI H2 v p fr N nid n m (H.set (N + 5) k) := by
  obtain ⟨x0, x1, ⟨x2, x3, x4⟩, x5, x6⟩ := x
  exact ⟨x0, x1.set (by omega), ⟨by rw [get_set_ne (by omega)]; exact x2, by rw [get_set_ne (by omega)]; exact x3, by rw [get_set_ne (by omega)]; exact x4⟩, by rw [get_set_ne (by omega)]; exact x5, by rw [get_set_ne (by omega)]; exact x6⟩
theorem CI.put (x : CI H2 v p fr N nid n m H) : CI H2 v p fr N nid n m' (H.set (N + 1) (thB m')) := by
  obtain ⟨x0, x1, ⟨x2, x3, x4⟩, x5, x6⟩ := x
  exact ⟨x0, x1.set (by omega), ⟨by rw [get_set_ne (by omega)]; exact x2, by rw [get_set_ne (by omega)]; exact x3, by rw [get_set_ne (by omega)]; exact x4⟩, by rw [get_set_ne (by omega)]; exact x5, by rw [List.getElem?_set_self (lt_of_get x6)]⟩
end
theorem stTh {m : List Bool} {base id i : Nat} {K : ABlk → Heap} (hb : base ≤ id) (hi : i < m.length) : stQ base id (some (thB m)) 0 i [.bool true] K = some (K (thB (m.set i true))) := by
  unfold thB
  rw [stQ_own hb (by simp only [List.length_map, List.length_cons, List.length_nil]; omega) (by simp [AVal.scalar])]
  simp only [splice, List.map_set]
theorem stE24 {base : Nat} {l : List Oper} {s : St} {Q : AExit → St → Prop} : WP prog raw base (.region 8 l.toArray false) s Q = WPS prog raw base (.region 8 l.toArray false) s Q := WP_stop
attribute [local go_sem ↓ 3000] stE24
set_option maxHeartbeats 2000000 in
theorem run_can {base : Nat} {h : Heap} {v : AVal} {L : Lom} {k : Int} (hb : base ≤ h.length) (hL : LomAt h v L) (hok : LomOk L) :
    Ret prog raw base (.fn 21 [] []) [v, .int .i64 k] h (fun w H => Ext h H ∧ ∃ x, w = .tuple [x, .int .i64 (canM L k).2] ∧ Own encI 3 h.length H x (canM L k).1) := by
  obtain ⟨pv, sv, rfl, hP, hS⟩ := id hL
  have hp1 := hP.one
  have hs1 := hS.one
  obtain ⟨w1, H1, e1, x1, y, rfl, ho, hd⟩ := run_told (base := base) (h := h ++ [⟨.cells [.int .i64 L.R, .int .i64 L.T, pv, sv] 25 false false, 0⟩] ++ [⟨.cells [.int .i64 k] 3 false false, 0⟩]) (b := prtB L k) (by simp; omega) (hL.ext (.app (.app .refl))) hok
  have xh := (Ext.app (t := [⟨.cells [.int .i64 k] 3 false false, 0⟩]) (Ext.app (t := [⟨.cells [.int .i64 L.R, .int .i64 L.T, pv, sv] 25 false false, 0⟩]) (Ext.refl (h := h)))).trans x1
  have hH1l := xh.len
  have g0 : H1[h.length]? = some ⟨.cells [.int .i64 L.R, .int .i64 L.T, pv, sv] 25 false false, 0⟩ := x1.get (by simp)
  have g1 : H1[h.length + 1]? = some (intB k) := x1.get (by simp [intB])
  have hpt : ∀ {base : Nat} {a c : ABlk}, callL prog raw base (.fn 75 [] []) [lomV L.R L.T pv sv, .int .i64 k] (h ++ [a] ++ [c]) = some (.bool (!prtB L k), h ++ [a] ++ [c]) := fun {base a c} => by
    have := run_part (base := base) (R := L.R) (T := L.T) (n := k) (hP.ext (.app (.app .refl) : Ext h (h ++ [a] ++ [c]))) hs1 hok.2.1
    unfold prtB
    rw [Bool.not_not]
    exact this
  by_cases c1 : tolE L (prtB L k) = 0
  · rw [c1] at e1
    have hD := hd c1
    have hpb := (tolE_ok c1).2.1
    rw [hpb] at hpt e1
    have hc := (tolE_ok c1).1
    obtain ⟨k1, k2, k3, k4, k5, k6⟩ := chkM_ok hc
    have hkp : 0 ≤ k ∧ k ≤ (L.ps.length : Int) - 1 := by unfold prtB at hpb; simpa using hpb
    obtain ⟨p, rfl⟩ := Int.eq_ofNat_of_zero_le hkp.1
    have hp : p < L.ps.length := by omega
    have hDL := deskL_A hc hok
    obtain ⟨T, eT⟩ := Int.eq_ofNat_of_zero_le (show 0 ≤ L.T by omega)
    obtain ⟨bad, ebad⟩ : ∃ bad, bad = (deskA L).1 := ⟨_, rfl⟩
    obtain ⟨ms, ems⟩ : ∃ ms, ms = (deskA L).2 := ⟨_, rfl⟩
    obtain ⟨oth, eoth⟩ : ∃ oth, oth = wayA L (deskA L).1 (deskA L).2 (mstF (p : Int)) := ⟨_, rfl⟩
    obtain ⟨mds, emds⟩ : ∃ mds, mds = made L (deskA L).1 (deskA L).2 p := ⟨_, rfl⟩
    have r : canM L (p : Int) = (numsN (canJ oth mds mds.length) T, 0) := by unfold canM canA; rw [if_neg (by simp [c1]), show L.T.toNat = T by omega, Int.toNat_natCast, ← eoth, ← emds]
    rw [r]
    obtain ⟨w2, H2, e2, x2, nid, vs, rfl, v1, v2⟩ := run_ways' (base := base) (h := H1) (by omega) hD hDL (lets_can (k := (p : Int)) g1)
    rw [← eoth] at e2 v2
    have holn : oth.length = 2 ^ bad.length := by rw [eoth, ebad]; exact wayN_len _
    obtain ⟨n, en⟩ : ∃ n, n = oth.length := ⟨_, rfl⟩
    have hn1 : n ≤ 2 ^ 10 := by rw [en, holn]; exact Nat.pow_le_pow_right (by decide) (by rw [ebad]; exact hDL.2.1)
    have hn0 : 0 < n := by rw [en, holn]; exact Nat.two_pow_pos _
    rw [← en] at e2
    rw [← ebad] at hDL hD
    rw [← ems] at hD
    obtain ⟨N, eN⟩ : ∃ N, N = H2.length := ⟨_, rfl⟩
    have xh2 := xh.trans x2
    have hH2l := xh2.len
    have g12 := x2.get g1
    rw [intB] at g12
    have lg12 := lt_of_get g12
    have g02 := x2.get g0
    have hbr := run_breaks (base := base) (h := H2 ++ [slB nid n] ++ [thB (List.replicate 12 false)]) (k := p) (by simp; omega) (hD.ext (x2.trans (.app (.app .refl)))) k3.2 hp
    have hth : thB (List.replicate 12 false) = ⟨.cells [.bool false, .bool false, .bool false, .bool false, .bool false, .bool false, .bool false, .bool false, .bool false, .bool false, .bool false, .bool false] 143 false false, 0⟩ := rfl
    simp only [hth, slB, List.length_append, List.length_cons, List.length_nil, Nat.zero_add, ← eN] at hbr
    refine ret_raw func21 rfl (by kernel_rfl) ?_
    have hsp := @Nat.succ_ne_zero; repeat' (first | simp (disch := first | exact dschE24 | fail) only [go_sem, ↓reduceIte, hsp, hpt, e1, eq_self, e2, g12, hbr] | refine WP_drw ?_ | refine cnd_intro (fun hsp => ?_) fun hsp => ?_)
    refine WP_rest fun F G eF eG => ?_
    have kF2 := congrFun eF 2
    have kF4 := congrFun eF 4
    have kF5 := congrFun eF 5
    have kF8 := congrFun eF 8
    have kF9 := congrFun eF 9
    have kF32 := congrFun eF 32
    try simp (disch := first | exact dschE24 | fail) only [go_sem, ↓reduceIte] at kF2 kF4 kF5 kF8 kF9 kF32
    have lG := congrArg List.length eG
    try simp (disch := first | exact dschE24 | fail) only [go_sem, ↓reduceIte] at lG
    rw [← eN] at kF8 kF9
    clear eF lG
    have hGl : G.length = N + 5 := by rw [eG, eN]; simp
    have xG : Ext H2 G := by rw [eG]; exact .app (.app (.app (.app (.app .refl))))
    have hC0 : CI H2 y p (freeB (ms.getD p [])) N nid n (canJ oth mds 0) G := by
      refine ⟨eN.symm, xG, ⟨?_, ?_, ?_⟩, ?_, ?_⟩
      · rw [eG, eN]; simp
      · rw [eG, eN]; simp
      · rw [eG, eN]; simp
      · rw [eG, eN]; simp [slB]
      · rw [eG, eN]; simp [thB, canJ]
    clear eG
    refine WP_range (f := 137) (a := []) (c := [.ptr (some ⟨N + 1 + 1, 0, 0⟩), .ptr (some ⟨N + 1 + 1 + 2, 0, 0⟩), .ptr (some ⟨N + 1 + 1 + 1, 0, 0⟩)]) (by rw [ev_tmp, kF32]) (N := mds.length) (xs := fun j => [.agg (mdC (mds.getD j (brk0, 0)).1 (mds.getD j (brk0, 0)).2)])
      (fun j H => CI H2 y p (freeB (ms.getD p [])) N nid n (canJ oth mds j) H) (fun _ _ => False) ?_ (fun j => rfl) (fun j H T x => x.ext (.app .refl)) (fun j H b x => by rw [hGl]; exact x.set5) (fun e H b x => x) (hC0.ext (.app .refl)) ?_ ?_ (fun e H _ x => x.elim)
    · rw [emds, ← ebad, ← ems]
      refine yields_breaks (v := y) hc hp hDL.2.1 hDL.2.2.1 hDL.2.2.2 fun j H x => ?_
      have q := x.2.1.len
      exact ⟨by omega, x.2.2.1, hD.ext (x2.trans x.2.1)⟩
    · rintro j H B1 B2 hj hC hlen hB1
      rw [hGl] at hlen hB1 ⊢
      obtain ⟨⟨b, x⟩, ebx⟩ : ∃ bx : Brk × Nat, bx = mds.getD j (brk0, 0) := ⟨_, rfl⟩
      rw [← ebx]
      simp only [mdC]
      have hH2 := lt_of_get hB1
      have hbH : base ≤ H.length := by omega
      have hsp := @Nat.succ_ne_zero; repeat' (first | simp (disch := first | exact dschE24 | fail) only [go_sem, ↓reduceIte, hsp, kF2, kF4, kF5, kF8, kF9, kF32] | refine WP_drw ?_ | refine cnd_intro (fun hsp => ?_) fun hsp => ?_)
      refine ⟨hB1, ?_⟩
      refine WPS_rest fun A K eA eK => ?_
      rw [WP_region]
      have kA2 := congrFun eA 2
      have kA4 := congrFun eA 4
      have kA5 := congrFun eA 5
      have kA8 := congrFun eA 8
      have kA9 := congrFun eA 9
      have kA10 := congrFun eA 10
      try simp (disch := first | exact dschE24 | fail) only [go_sem, ↓reduceIte, kF2, kF4, kF5, kF8, kF9] at kA2 kA4 kA5 kA8 kA9 kA10
      have lK := congrArg List.length eK
      try simp (disch := first | exact dschE24 | fail) only [go_sem, ↓reduceIte] at lK
      clear eA lK
      have hK : CI H2 y p (freeB (ms.getD p [])) N nid n (canJ oth mds j) K := by rw [eK]; exact (hC.set5).ext (.app .refl)
      have hKb : K[N + 5]? = some B2 := by rw [eK]; exact get_app (by rw [List.getElem?_set_self hH2])
      have hKm : K[H.length]? = some (mdB b x) := by rw [eK, List.getElem?_append_right (by simp)]; simp [mdB, mdC]
      have hKk : ∀ (i : Nat) (y : ABlk), N + 5 + 1 ≤ i → H[i]? = some y → K[i]? = some y := fun i y hi hy => by rw [eK]; exact get_app (by rw [get_set_ne (by omega)]; exact hy)
      clear eK
      have hjm : (b, x) ∈ mds := by rw [ebx]; exact List.mem_of_getElem? (getD_some hj)
      have hx2 : x < n := by
        have := made_below (L := L) (bad := bad) (ms := ms) (k := p) (b, x) (by rw [ebad, ems, ← emds]; exact hjm) 0 (by rw [← holn, ← en]; exact hn0)
        rw [← holn, ← en] at this
        simpa using this
      obtain ⟨a, d, had, hbd⟩ : ∃ a d : Nat, a + d < T ∧ b = ((p : Int), (a : Int), ((a + d : Nat) : Int)) := by
        rw [emds] at hjm
        obtain ⟨b', hb', e'⟩ := List.mem_map.1 hjm
        obtain ⟨n', d', q1, q2, rfl⟩ := brkL_mem.1 hb'
        cases e'
        have q3 := runF_le (p := fun t => !(List.getD ((deskA L).2.getD p []) t false)) (n := L.T.toNat - n') (a := n')
        refine ⟨n', d', ?_, rfl⟩
        have : L.T.toNat = T := by omega
        rw [this] at q1 q2 q3
        omega
      have d2 := hKm
      rw [mdB, mdC] at d2
      have d3 := hK.2.2.2.1
      rw [slB] at d3
      have hst : canJ oth mds (j + 1) = setC oth b x (canJ oth mds j) oth.length := by rw [canJ, ← ebx]
      rw [hst]
      have hsp := @Nat.succ_ne_zero; repeat' (first | simp (disch := first | exact dschE24 | fail) only [go_sem, ↓reduceIte, hsp, kA2, kA4, kA5, kA8, kA9, kA10, d2, d3] | refine WP_drw ?_ | refine cnd_intro (fun hsp => ?_) fun hsp => ?_)
      refine WP_count [(11, 13), (36, 66)] 0 n (Nat.zero_le _) (fun _ s fr h' => fr 36 = .int .i64 (s : Int) ∧ CI H2 y p (freeB (ms.getD p [])) N nid n (setC oth b x (canJ oth mds j) s) h' ∧ h'[N + 5]? = some B2 ∧ h'[H.length]? = some (mdB b x) ∧ (∀ (i : Nat) (y : ABlk), N + 5 + 1 ≤ i → H[i]? = some y → h'[i]? = some y)) ?_ ?_ ?_
      · exact ⟨by (simp (disch := first | exact dschE24 | fail) only [go_sem, ↓reduceIte, Int.natCast_zero]; first | done | rfl), hK, hKb, hKm, hKk⟩
      · rintro s fr4 H4 hs0 hs hA4 ⟨r36, hC4, h4b, h4m, h4k⟩
        have M2 := hA4 2 rfl
        have M4 := hA4 4 rfl
        have M5 := hA4 5 rfl
        have M8 := hA4 8 rfl
        have M9 := hA4 9 rfl
        have M10 := hA4 10 rfl
        have M34 := hA4 34 rfl
        have M35 := hA4 35 rfl
        try simp (disch := first | exact dschE24 | fail) only [go_sem, ↓reduceIte, kA2, kA4, kA5, kA8, kA9, kA10] at M2 M4 M5 M8 M9 M10 M34 M35
        have hlt4 : ((s : Int) < (n : Int)) = True := eq_true (by omega)
        obtain ⟨mk, emk⟩ : ∃ mk, mk = setC oth b x (canJ oth mds j) s := ⟨_, rfl⟩
        have hmkl : mk.length = 12 := by rw [emk, setC_len, canJ_len]
        rw [← emk] at hC4
        obtain ⟨c0, c1', _, c3, c4⟩ := id hC4
        have v1' := c1'.get v1
        have lv1 := lt_of_get v1'
        obtain ⟨wv, w1, w2', w3, w4, w5⟩ := (v2.ext c1').get (i := s) (by omega)
        have ldw := ldWA w1 w5
        rw [← v1', w2'] at ldw
        have lm4 := lt_of_get h4m
        have hbH4 : base ≤ H4.length := by have := c1'.len; omega
        have lc3 := lt_of_get c3
        rw [slB] at c3
        have g4m : ∀ {Z : Heap}, (H4 ++ Z)[H.length]? = some (mdB b x) := fun {Z} => get_app h4m
        simp only [mdB, mdC] at g4m
        have hor := orN (t := 3) (a := s) (b := x) (by omega) (by omega)
        have hnn : ((n : Int) - 1) = ((n - 1 : Nat) : Int) := by omega
        by_cases z0 : 0 < (oth.getD s wy0).1
        · have t0 : (((oth.getD s wy0).1 : Int) > 0) = True := eq_true (by omega)
          by_cases z1 : s ||| x = n - 1
          · have t1 : (((s ||| x : Nat) : Int) = ((n - 1 : Nat) : Int)) = True := eq_true (by omega)
            have hse : setC oth b x (canJ oth mds j) (s + 1) = markC mk b.2.1.toNat (b.2.2 + 1 - b.2.1).toNat := by rw [setC, if_pos ⟨z0, by rw [← en]; exact z1⟩, emk]
            rw [hse]
            have hsp := @Nat.succ_ne_zero; repeat' (first | simp (disch := first | exact dschE24 | fail) only [go_sem, ↓reduceIte, hsp, r36, M2, M4, M5, M8, M9, M10, M34, M35, hlt4, ldw, t0, g4m, hor, c3, hnn, t1] | refine WP_drw ?_ | refine cnd_intro (fun hsp => ?_) fun hsp => ?_)
            have hb1 : b.2.1 = (a : Int) := by rw [hbd]
            have hb2 : b.2.2 = ((a + d : Nat) : Int) := by rw [hbd]
            have hqn : (b.2.2 + 1 - b.2.1).toNat = d + 1 := by omega
            have hqa : b.2.1.toNat = a := by omega
            rw [hqn, hqa]
            refine WP_count [(13, 13), (57, 65)] 0 (d + 1) (Nat.zero_le _) (fun _ q fr h' => fr 13 = .int .i64 ((a + q : Nat) : Int) ∧ CI H2 y p (freeB (ms.getD p [])) N nid n (markC mk a q) h' ∧ h'[N + 5]? = some B2 ∧ h'[H.length]? = some (mdB b x) ∧ (∀ (i : Nat) (y : ABlk), N + 5 + 1 ≤ i → H[i]? = some y → h'[i]? = some y)) ?_ ?_ ?_
            · exact ⟨by simp (disch := first | exact dschE24 | fail) only [go_sem, ↓reduceIte, hb1, Nat.add_zero], hC4.ext (.app .refl), get_app h4b, get_app h4m, fun i y hi hy => get_app (h4k i y hi hy)⟩
            · rintro q fr5 H5 hq0 hq hA5 ⟨r13, hC5, h5b, h5m, h5k⟩
              have D2 := hA5 2 rfl
              have D4 := hA5 4 rfl
              have D5 := hA5 5 rfl
              have D8 := hA5 8 rfl
              have D9 := hA5 9 rfl
              have D10 := hA5 10 rfl
              have D34 := hA5 34 rfl
              have D35 := hA5 35 rfl
              have D36 := hA5 36 rfl
              try simp (disch := first | exact dschE24 | fail) only [go_sem, ↓reduceIte, M2, M4, M5, M8, M9, M10, M34, M35] at D2 D4 D5 D8 D9 D10 D34 D35 D36
              have hlt5 : (((a + q : Nat) : Int) ≤ b.2.2) = True := eq_true (by omega)
              obtain ⟨_, f1, _, f3, f4⟩ := id hC5
              have g5m := h5m
              simp only [mdB, mdC] at g5m
              have lf4 := lt_of_get f4
              have hmq : (markC mk a q).length = 12 := by rw [markC_len]; exact hmkl
              have ha5 : indexAddrA prog 143 (.ptr (some ⟨N + 1, 0, 0⟩)) (.int .i64 ((a + q : Nat) : Int)) = some (.ptr (some ⟨N + 1, 0, a + q⟩)) := by
                rw [adr_arr Fc.ar143 (by omega) (by omega), Int.toNat_natCast, Nat.mul_one, Nat.zero_add]
              have hs5 : ∀ {Z : ABlk → Heap}, stQ base (N + 1) H5[N + 1]? 0 (a + q) [.bool true] Z = some (Z (thB ((markC mk a q).set (a + q) true))) := fun {Z} => by
                rw [f4]
                exact stTh (by have := f1.len; omega) (by omega)
              have hsp := @Nat.succ_ne_zero; repeat' (first | simp (disch := first | exact dschE24 | fail) only [go_sem, ↓reduceIte, hsp, r13, D2, D4, D5, D8, D9, D10, D34, D35, D36, hlt5, g5m, ha5, hs5] | refine WP_drw ?_ | refine cnd_intro (fun hsp => ?_) fun hsp => ?_)
              refine ⟨by (repeat first | exact Agree.refl | assumption | refine Agree.put rfl ?_ | refine Agree.put0 ?_ | refine Agree.sub rfl (by assumption) ?_), by omega, hC5.put, ?_, ?_, ?_⟩
              · first | exact h5b | (rw [get_set_ne (by omega)]; exact h5b)
              · first | exact h5m | rfl | (rw [get_set_ne (by omega)]; exact h5m)
              · intro i y hi hy
                rw [get_set_ne (by omega)]; exact h5k i y hi hy
            · rintro fr5 H5 hA5 ⟨r13, hC5, h5b, h5m, h5k⟩
              have D2 := hA5 2 rfl
              have D4 := hA5 4 rfl
              have D5 := hA5 5 rfl
              have D8 := hA5 8 rfl
              have D9 := hA5 9 rfl
              have D10 := hA5 10 rfl
              have D34 := hA5 34 rfl
              have D35 := hA5 35 rfl
              have D36 := hA5 36 rfl
              try simp (disch := first | exact dschE24 | fail) only [go_sem, ↓reduceIte, M2, M4, M5, M8, M9, M10, M34, M35] at D2 D4 D5 D8 D9 D10 D34 D35 D36
              have hlt5 : (((a + (d + 1) : Nat) : Int) ≤ b.2.2) = False := eq_false (by omega)
              have g5m := h5m
              simp only [mdB, mdC] at g5m
              have D36 := hA5 36 rfl; simp (disch := first | exact dschE24 | fail) only [go_sem, ↓reduceIte, r36] at D36
              have hsp := @Nat.succ_ne_zero; repeat' (first | simp (disch := first | exact dschE24 | fail) only [go_sem, ↓reduceIte, hsp, r13, D2, D4, D5, D8, D9, D10, D34, D35, D36, D36, hlt5, g5m] | refine WP_drw ?_ | refine cnd_intro (fun hsp => ?_) fun hsp => ?_)
              refine ⟨by (repeat first | exact Agree.refl | assumption | refine Agree.put rfl ?_ | refine Agree.put0 ?_ | refine Agree.sub rfl (by assumption) ?_), by omega, hC5, h5b, (by first | exact h5m | rfl), h5k⟩
          · have t1 : (((s ||| x : Nat) : Int) = ((n - 1 : Nat) : Int)) = False := eq_false (by omega)
            have hse : setC oth b x (canJ oth mds j) (s + 1) = mk := by rw [setC, if_neg (by rw [← en]; exact fun q => z1 q.2), emk]
            rw [hse]
            have hsp := @Nat.succ_ne_zero; repeat' (first | simp (disch := first | exact dschE24 | fail) only [go_sem, ↓reduceIte, hsp, r36, M2, M4, M5, M8, M9, M10, M34, M35, hlt4, ldw, t0, g4m, hor, c3, hnn, t1] | refine WP_drw ?_ | refine cnd_intro (fun hsp => ?_) fun hsp => ?_)
            exact ⟨by (repeat first | exact Agree.refl | assumption | refine Agree.put rfl ?_ | refine Agree.put0 ?_ | refine Agree.sub rfl (by assumption) ?_), by omega, hC4.ext (.app .refl), h4b, (by first | exact h4m | rfl), fun i y hi hy => get_app (h4k i y hi hy)⟩
        · have t0 : (((oth.getD s wy0).1 : Int) > 0) = False := eq_false (by omega)
          have hse : setC oth b x (canJ oth mds j) (s + 1) = mk := by rw [setC, if_neg (fun q => z0 q.1), emk]
          rw [hse]
          have hsp := @Nat.succ_ne_zero; repeat' (first | simp (disch := first | exact dschE24 | fail) only [go_sem, ↓reduceIte, hsp, r36, M2, M4, M5, M8, M9, M10, M34, M35, hlt4, ldw, t0] | refine WP_drw ?_ | refine cnd_intro (fun hsp => ?_) fun hsp => ?_)
          exact ⟨by (repeat first | exact Agree.refl | assumption | refine Agree.put rfl ?_ | refine Agree.put0 ?_ | refine Agree.sub rfl (by assumption) ?_), by omega, hC4.ext (.app .refl), h4b, (by first | exact h4m | rfl), fun i y hi hy => get_app (h4k i y hi hy)⟩
      · rintro fr4 H4 hA4 ⟨r36, hC4, h4b, h4m, h4k⟩
        have M2 := hA4 2 rfl
        have M4 := hA4 4 rfl
        have M5 := hA4 5 rfl
        have M8 := hA4 8 rfl
        have M9 := hA4 9 rfl
        have M10 := hA4 10 rfl
        have M34 := hA4 34 rfl
        have M35 := hA4 35 rfl
        try simp (disch := first | exact dschE24 | fail) only [go_sem, ↓reduceIte, kA2, kA4, kA5, kA8, kA9, kA10] at M2 M4 M5 M8 M9 M10 M34 M35
        have hlt4 : ((n : Int) < (n : Int)) = False := eq_false (by omega)
        have hsp := @Nat.succ_ne_zero; repeat' (first | simp (disch := first | exact dschE24 | fail) only [go_sem, ↓reduceIte, hsp, r36, M2, M4, M5, M8, M9, M10, M34, M35, hlt4] | refine WP_drw ?_ | refine cnd_intro (fun hsp => ?_) fun hsp => ?_)
        rw [← en]
        exact ⟨h4b, h4k, .inl hC4⟩
    · rintro H hC
      obtain ⟨_, x1', _, _, q4⟩ := hC
      rw [thB] at q4
      have lq4 := lt_of_get q4
      have g03 := x1'.get g02
      have hcl := canJ_len (l := oth) (mds := mds) mds.length
      have hnu := run_numbers (base := base) (h := H) (l := canJ oth mds mds.length) (m := T) (by have := x1'.len; omega) hcl (by omega)
      obtain ⟨w3, H3, e3, x3, o3⟩ := hnu
      rw [← eT] at e3
      have hld : ldB (some (true, 12)) (some ⟨.cells ((canJ oth mds mds.length).map .bool) 143 false false, 0⟩) 0 0 = some (.agg ((canJ oth mds mds.length).map .bool)) := by
        rw [ldB_agg (by rw [List.length_map, hcl]; exact Nat.le_refl _), List.drop_zero, List.take_of_length_le (by rw [List.length_map, hcl]; exact Nat.le_refl _)]
      have hsp := @Nat.succ_ne_zero; repeat' (first | simp (disch := first | exact dschE24 | fail) only [go_sem, ↓reduceIte, hsp, kF2, kF4, kF5, kF8, kF9, kF32, q4, hld, g03, e3] | refine WP_drw ?_ | refine cnd_intro (fun hsp => ?_) fun hsp => ?_)
      first | exact ⟨xh2.trans (x1'.trans x3), w3, rfl, o3.low (by have := x1'.len; omega)⟩ | exact ⟨w3, rfl, o3.low (by have := x1'.len; omega)⟩
  · have t1 : (tolE L (prtB L k) = 0) = False := eq_false c1
    have r : canM L k = ([], tolE L (prtB L k)) := by unfold canM; rw [if_pos c1]
    rw [r]
    refine ret_raw func21 rfl (by kernel_rfl) ?_
    have hsp := @Nat.succ_ne_zero; repeat' (first | simp (disch := first | exact dschE24 | fail) only [go_sem, ↓reduceIte, hsp, hpt, Bool.not_not, e1, t1] | refine WP_drw ?_ | refine cnd_intro (fun hsp => ?_) fun hsp => ?_)
    exact ⟨xh, _, rfl, Own.nil⟩
end Go.AM
/-
  Contracts: bad sights that are apart.
-/
namespace Go.AM
open Go.Proofs.Tryz
theorem dschE25 {p : Prop} (h : p := by first | exact Nat.ne_of_beq_eq_false rfl | assumption | (apply asOne; (first | exact One.int | exact One.bool | assumption | exact Ints.one (by assumption) | exact Rows.one (by assumption) | exact Own.one (by assumption) | exact One.lit ⟨rfl, rfl, rfl⟩)) | (apply asInts; (repeat first | assumption | exact ints_nil | apply Ints.app); done) | (apply asRows; (repeat first | assumption | exact Rows.nil | apply Rows.app); done) | (apply asScal; (first | apply allS1 | apply allS2 | apply allS3 | apply allS4) <;> (first | exact One.int | exact One.bool | assumption | exact Ints.one (by assumption) | exact Rows.one (by assumption) | exact Own.one (by assumption) | exact One.lit ⟨rfl, rfl, rfl⟩)) | exact litT rfl | exact litF rfl | omega | (simp only [List.length_append, List.length_cons, List.length_nil, List.length_set, List.length_reverse]; first | done | omega) | fail) : p := h
attribute [-go_sem] put_ne put_same
attribute [local go_sem ↓] put_if
/-- No break explains both of two bits. -/
def aprM (L : Lom) (bad : List Int) (ms : List (List Bool)) (two : Nat) : Bool := (List.range L.ps.length).all fun k => (made L bad ms k).all fun q => !decide (q.2 &&& two = two)
def badI (L : Lom) (i : Int) : Bool := (L.ss.getD i.toNat sgt0).bad
theorem deskN_bad {L : Lom} {o : List Int} (ho : ∀ i ∈ o, 0 ≤ i ∧ i < (L.ss.length : Int)) : (deskN L o).1 = o.filter (badI L) := by
  suffices g : ∀ (o : List Int) (d : List Int × List (List Bool)), (∀ i ∈ o, 0 ≤ i ∧ i < (L.ss.length : Int)) → (o.foldl (deskS L) d).1 = d.1 ++ o.filter (badI L) by
    have := g o ([], List.replicate L.ps.length (List.replicate 12 false)) ho
    simpa [deskN] using this
  intro o
  induction o with
  | nil => intro d _; simp
  | cons i o ih =>
    intro d ho
    have hi := ho i (by simp)
    have hs := getD_some (d := sgt0) (show i.toNat < L.ss.length by omega)
    rw [List.foldl_cons, ih _ (fun j hj => ho j (List.mem_cons_of_mem _ hj)), List.filter_cons]
    unfold deskS
    rw [hs]
    simp only
    by_cases hb : (L.ss.getD i.toNat sgt0).bad = true
    · rw [if_pos hb, if_pos (show badI L i = true from hb)]; simp
    · rw [if_neg hb, if_neg (show ¬ badI L i = true from hb)]
theorem deskA_bad {L : Lom} : (deskA L).1 = (upto L.ss.length).filter (badI L) := deskN_bad fun i hi => upto_mem.1 hi
/-- What holds while the breaks are gone through. -/
def DI (H2 : Heap) (v : AVal) (p : Nat) (fr : Bool) (N : Nat) (H : Heap) : Prop := H2.length = N ∧ Ext H2 H ∧ BoxAt H N (N + 2) (N + 1) v p fr
section
variable {H2 H H' : Heap} {v : AVal} {p N : Nat} {fr : Bool}
theorem DI.ext (x : DI H2 v p fr N H) (e : Ext H H') : DI H2 v p fr N H' := ⟨x.1, x.2.1.trans e, x.2.2.ext e⟩
theorem DI.set3 {k : ABlk} (x : DI H2 v p fr N H) : DI H2 v p fr N (H.set (N + 3) k) := by
  obtain ⟨x0, x1, ⟨x2, x3, x4⟩⟩ := x
  exact ⟨x0, x1.set (by omega), ⟨by rw [get_set_ne (by omega)]; exact x2, by rw [get_set_ne (by omega)]; exact x3, by rw [get_set_ne (by omega)]; exact x4⟩⟩
end
theorem stE25 {base : Nat} {l : List Oper} {s : St} {Q : AExit → St → Prop} : WP prog raw base (.region 6 l.toArray false) s Q = WPS prog raw base (.region 6 l.toArray false) s Q := WP_stop
attribute [local go_sem ↓ 3000] stE25
set_option maxHeartbeats 2000000 in
theorem run_apart {base : Nat} {h : Heap} {v : AVal} {L : Lom} {bad : List Int} {ms : List (List Bool)} {two : Nat} (hD : DeskAt h v L bad ms) (hDL : DeskL L bad) (h2 : two < 2 ^ 62) :
    callL prog raw base (.fn 93 [] []) [v, .int .i64 (two : Int)] h = some (.bool (aprM L bad ms two), h) := by
  have hc := hDL.1
  obtain ⟨k1, k2, k3, k4, k5, k6⟩ := chkM_ok hc
  obtain ⟨did, mid, pv, sv, bv, rfl, g1, g2, g3, g4, g5, g6, g7⟩ := id hD
  rw [deskB] at g1
  have lg1 := lt_of_get g1
  have hlP : ∀ {a b : ABlk}, lenOpA prog (h ++ [a] ++ [b]) 22 pv = some (.int .i64 (L.ps.length : Int)) := fun {a b} => (g2.ext (.app (.app .refl))).len
  obtain ⟨h3, eh3⟩ : ∃ h3, h3 = h ++ [intB two] ++ [boolB false] := ⟨_, rfl⟩
  have xh3 : Ext h h3 := by rw [eh3]; exact .app (.app .refl)
  have hl3 : h3.length = h.length + 2 := by rw [eh3]; simp
  have b0 : h3[h.length]? = some (intB two) := by rw [eh3]; simp
  have b1 : h3[h.length + 1]? = some (boolB false) := by rw [eh3]; simp
  refine callL_run func93 rfl rfl ?_
  have hsp := @Nat.succ_ne_zero; repeat' (first | simp (disch := first | exact dschE25 | fail) only [go_sem, ↓reduceIte, hsp, g1, hlP] | refine WP_drw ?_ | refine cnd_intro (fun hsp => ?_) fun hsp => ?_)
  refine WP_count [(5, 6), (13, 18), (20, 26)] 0 L.ps.length (Nat.zero_le _) (fun _ p fr h' => fr 13 = .int .i64 (p : Int) ∧ Ext h3 h' ∧ ∀ k, k < p → ∀ q ∈ made L bad ms k, q.2 &&& two ≠ two) ?_ ?_ ?_
  · exact ⟨by (simp (disch := first | exact dschE25 | fail) only [go_sem, ↓reduceIte, Int.natCast_zero]; first | done | rfl), by rw [eh3]; exact .refl, fun k hk => by omega⟩
  · rintro p fr H hp0 hp hA ⟨r13, xH, hno⟩
    have p0 := hA 0 rfl
    have p3 := hA 3 rfl
    have p4 := hA 4 rfl
    have p12 := hA 12 rfl
    try simp (disch := first | exact dschE25 | fail) only [go_sem, ↓reduceIte] at p0 p3 p4 p12
    have hlt : ((p : Int) < (L.ps.length : Int)) = True := eq_true (by omega)
    have xh := xh3.trans xH
    have hHl := xH.len
    have hbr := run_breaks (base := h.length) (h := H) (k := p) (by omega) (hD.ext xh) k3.2 hp
    have hsp := @Nat.succ_ne_zero; repeat' (first | simp (disch := first | exact dschE25 | fail) only [go_sem, ↓reduceIte, hsp, r13, p0, p3, p4, p12, hlt, hbr] | refine WP_drw ?_ | refine cnd_intro (fun hsp => ?_) fun hsp => ?_)
    refine WP_rest fun F G eF eG => ?_
    have kF0 := congrFun eF 0
    have kF3 := congrFun eF 3
    have kF4 := congrFun eF 4
    have kF12 := congrFun eF 12
    have kF18 := congrFun eF 18
    try simp (disch := first | exact dschE25 | fail) only [go_sem, ↓reduceIte, p0, p3, p4, p12] at kF0 kF3 kF4 kF12 kF18
    have lG := congrArg List.length eG
    try simp (disch := first | exact dschE25 | fail) only [go_sem, ↓reduceIte] at lG
    have kF13 := congrFun eF 13; simp (disch := first | exact dschE25 | fail) only [go_sem, ↓reduceIte, r13] at kF13
    have aF : Agree [(5, 6), (13, 18), (20, 26)] F fr := by rw [eF]; (repeat first | exact Agree.refl | assumption | refine Agree.put rfl ?_ | refine Agree.put0 ?_ | refine Agree.sub rfl (by assumption) ?_)
    clear eF
    obtain ⟨N, eN⟩ : ∃ N, N = H.length := ⟨_, rfl⟩
    have hGl : G.length = N + 3 := by rw [eG, eN]; simp
    have hD0 : DI H (.ptr (some ⟨did, 0, 0⟩)) p (freeB (ms.getD p [])) N G := by
      refine ⟨eN.symm, by rw [eG]; exact .app (.app (.app .refl)), ?_, ?_, ?_⟩
      · rw [eG, eN]; simp
      · rw [eG, eN]; simp
      · rw [eG, eN]; simp
    rw [← eN] at kF18
    clear eG lG
    obtain ⟨mds, emds⟩ : ∃ mds, mds = made L bad ms p := ⟨_, rfl⟩
    refine WP_range (f := 137) (a := []) (c := [.ptr (some ⟨N, 0, 0⟩), .ptr (some ⟨N + 2, 0, 0⟩), .ptr (some ⟨N + 1, 0, 0⟩)]) (by rw [ev_tmp, kF18]) (N := mds.length) (xs := fun j => [.agg (mdC (mds.getD j (brk0, 0)).1 (mds.getD j (brk0, 0)).2)])
      (fun j H' => DI H (.ptr (some ⟨did, 0, 0⟩)) p (freeB (ms.getD p [])) N H' ∧ ∀ i, i < j → (mds.getD i (brk0, 0)).2 &&& two ≠ two)
      (fun e H' => e = .ret ∧ Ext h H' ∧ h.length + 2 ≤ G.length ∧ H'[h.length + 1]? = some (boolB false) ∧ ∃ q ∈ mds, q.2 &&& two = two)
      ?_ (fun j => rfl) (fun j H T x => ⟨x.1.ext (.app .refl), x.2⟩) (fun j H' b x => by rw [hGl]; exact ⟨x.1.set3, x.2⟩) ?_ ⟨hD0.ext (.app .refl), fun i hi => by omega⟩ ?_ ?_ ?_
    · rw [emds]
      refine yields_breaks (v := .ptr (some ⟨did, 0, 0⟩)) hc hp hDL.2.1 hDL.2.2.1 hDL.2.2.2 fun j H' x => ?_
      have q := x.1.2.1.len
      exact ⟨by omega, x.1.2.2, hD.ext (xh.trans x.1.2.1)⟩
    · rintro e H' b ⟨q1, q2, q3, q4, q5⟩
      exact ⟨q1, q2.set (by omega), q3, by rw [get_set_ne (by omega)]; exact q4, q5⟩
    · rintro j H' B1 B2 hj ⟨hC, hnj⟩ hlen hB1
      rw [hGl] at hlen hB1 ⊢
      obtain ⟨⟨b, x⟩, ebx⟩ : ∃ bx : Brk × Nat, bx = mds.getD j (brk0, 0) := ⟨_, rfl⟩
      rw [← ebx]
      simp only [mdC]
      have hH2 := lt_of_get hB1
      have hsp := @Nat.succ_ne_zero; repeat' (first | simp (disch := first | exact dschE25 | fail) only [go_sem, ↓reduceIte, hsp, kF0, kF3, kF4, kF12, kF18] | refine WP_drw ?_ | refine cnd_intro (fun hsp => ?_) fun hsp => ?_)
      refine ⟨hB1, ?_⟩
      refine WPS_rest fun A K eA eK => ?_
      rw [WP_region]
      have kA0 := congrFun eA 0
      have kA3 := congrFun eA 3
      have kA4 := congrFun eA 4
      have kA6 := congrFun eA 6
      try simp (disch := first | exact dschE25 | fail) only [go_sem, ↓reduceIte, kF0, kF3, kF4] at kA0 kA3 kA4 kA6
      have lK := congrArg List.length eK
      try simp (disch := first | exact dschE25 | fail) only [go_sem, ↓reduceIte] at lK
      clear eA lK
      have hK : DI H (.ptr (some ⟨did, 0, 0⟩)) p (freeB (ms.getD p [])) N K := by rw [eK]; exact (hC.set3).ext (.app .refl)
      have hKb : K[N + 3]? = some B2 := by rw [eK]; exact get_app (by rw [List.getElem?_set_self hH2])
      have hKm : K[H'.length]? = some (mdB b x) := by rw [eK, List.getElem?_append_right (by simp)]; simp [mdB, mdC]
      have hKk : ∀ (i : Nat) (y : ABlk), N + 3 + 1 ≤ i → H'[i]? = some y → K[i]? = some y := fun i y hi hy => by rw [eK]; exact get_app (by rw [get_set_ne (by omega)]; exact hy)
      clear eK
      have hjm : (b, x) ∈ mds := by rw [ebx]; exact List.mem_of_getElem? (getD_some hj)
      have hx2 : x < 2 ^ 10 := by
        have := made_below (L := L) (bad := bad) (ms := ms) (k := p) (b, x) (by rw [← emds]; exact hjm) 0 (Nat.two_pow_pos _)
        have h2 : 2 ^ bad.length ≤ 2 ^ 10 := Nat.pow_le_pow_right (by decide) hDL.2.1
        simp at this
        omega
      have d0 := hK.2.1.get (xH.get b0)
      have d1 := hK.2.1.get (xH.get b1)
      have d2 := hKm
      rw [mdB, mdC] at d2
      rw [intB] at d0
      have hd1 := d1
      rw [boolB] at d1
      have ld1 := lt_of_get d1
      have hand := andN (t := 3) (a := x) (b := two) (by omega) h2
      by_cases z : x &&& two = two
      · have t1 : (((x &&& two : Nat) : Int) = (two : Int)) = True := eq_true (by omega)
        have hsp := @Nat.succ_ne_zero; repeat' (first | simp (disch := first | exact dschE25 | fail) only [go_sem, ↓reduceIte, hsp, kA0, kA3, kA4, kA6, d0, d1, d2, hand, t1] | refine WP_drw ?_ | refine cnd_intro (fun hsp => ?_) fun hsp => ?_)
        refine ⟨?_, ?_, .inr ⟨(by simp), (xh.trans hK.2.1).set (by omega), by omega, ?_, (b, x), hjm, z⟩⟩
        · first | exact hKb | (rw [get_set_ne (by omega)]; exact hKb)
        · intro i y hi hy
          rw [get_set_ne (by omega)]; exact hKk i y hi hy
        · first | rfl | rw [List.getElem?_set_self ld1]; rfl
      · have t1 : (((x &&& two : Nat) : Int) = (two : Int)) = False := eq_false (by omega)
        have hsp := @Nat.succ_ne_zero; repeat' (first | simp (disch := first | exact dschE25 | fail) only [go_sem, ↓reduceIte, hsp, kA0, kA3, kA4, kA6, d0, d1, d2, hand, t1] | refine WP_drw ?_ | refine cnd_intro (fun hsp => ?_) fun hsp => ?_)
        refine ⟨hKb, hKk, .inl ⟨hK, fun i hi => ?_⟩⟩
        by_cases e : i = j
        · rw [e, ← ebx]; exact z
        · exact hnj i (by omega)
    · rintro H' ⟨hC, hnj⟩
      have hsp := @Nat.succ_ne_zero; repeat' (first | simp (disch := first | exact dschE25 | fail) only [go_sem, ↓reduceIte, hsp, kF0, kF3, kF4, kF12, kF18, kF13] | refine WP_drw ?_ | refine cnd_intro (fun hsp => ?_) fun hsp => ?_)
      refine ⟨by (repeat first | exact Agree.refl | assumption | refine Agree.put rfl ?_ | refine Agree.put0 ?_ | refine Agree.sub rfl (by assumption) ?_), by omega, xH.trans hC.2.1, fun k hk q hq => ?_⟩
      by_cases e : k = p
      · subst e
        rw [← emds] at hq
        obtain ⟨i, hi, rfl⟩ := List.getElem_of_mem hq
        have := hnj i hi
        rwa [List.getD_eq_getElem?_getD, List.getElem?_eq_getElem hi] at this
      · exact hno k (by omega) q hq
    · rintro e H' _ ⟨rfl, q1, q2, q3, q, hq, hqt⟩
      rw [boolB] at q3
      have hsp := @Nat.succ_ne_zero; repeat' (first | simp (disch := first | exact dschE25 | fail) only [go_sem, ↓reduceIte, hsp, kF0, kF3, kF4, kF12, kF18, q3] | refine WP_drw ?_ | refine cnd_intro (fun hsp => ?_) fun hsp => ?_)
      refine fB ?_ q1
      symm
      unfold aprM
      rw [List.all_eq_false]
      refine ⟨p, List.mem_range.2 hp, ?_⟩
      rw [← emds]
      intro hall
      have := List.all_eq_true.1 hall q hq
      simp [hqt] at this
  · rintro fr H hA ⟨r13, xH, hno⟩
    have p0 := hA 0 rfl
    have p3 := hA 3 rfl
    have p4 := hA 4 rfl
    have p12 := hA 12 rfl
    try simp (disch := first | exact dschE25 | fail) only [go_sem, ↓reduceIte] at p0 p3 p4 p12
    have hlt : ((L.ps.length : Int) < (L.ps.length : Int)) = False := eq_false (by omega)
    have d1 := xH.get b1
    have ld1 := lt_of_get d1
    rw [boolB] at d1
    have hsp := @Nat.succ_ne_zero; repeat' (first | simp (disch := first | exact dschE25 | fail) only [go_sem, ↓reduceIte, hsp, r13, p0, p3, p4, p12, hlt, d1] | refine WP_drw ?_ | refine cnd_intro (fun hsp => ?_) fun hsp => ?_)
    refine fB ?_ ((xh3.trans xH).set (by omega))
    symm
    unfold aprM
    refine List.all_eq_true.2 fun k hk => List.all_eq_true.2 fun q hq => ?_
    simpa using hno k (List.mem_range.1 hk) q hq
/-! ### Apart -/
def ixB (L : Lom) (i : Int) : Nat := (deskA L).1.idxOf i
def sgtB (L : Lom) (i : Int) : Bool := decide (0 ≤ i ∧ i ≤ (L.ss.length : Int) - 1)
/-- fault.Apart. -/
def aptM (L : Lom) (a b : Int) : Bool × Int :=
  if chkM L ≠ 0 then (false, chkM L) else if ¬ (sgtB L a = true ∧ sgtB L b = true) then (false, 1) else if ¬ (badI L a = true ∧ badI L b = true ∧ a ≠ b) then (false, 8) else
    (aprM L (deskA L).1 (deskA L).2 (2 ^ ixB L a ||| 2 ^ ixB L b), 0)
attribute [-go_sem] stE25
end Go.AM
/-
  Contracts: what is the weaver's for certain (other, Weavers, Other).
-/
namespace Go.AM
open Go.Proofs.Tryz
theorem dschE26 {p : Prop} (h : p := by first | exact Nat.ne_of_beq_eq_false rfl | assumption | (apply asOne; (first | exact One.int | exact One.bool | assumption | exact Ints.one (by assumption) | exact Rows.one (by assumption) | exact Own.one (by assumption) | exact One.lit ⟨rfl, rfl, rfl⟩)) | (apply asInts; (repeat first | assumption | exact ints_nil | apply Ints.app); done) | (apply asRows; (repeat first | assumption | exact Rows.nil | apply Rows.app); done) | (apply asScal; (first | apply allS1 | apply allS2 | apply allS3 | apply allS4) <;> (first | exact One.int | exact One.bool | assumption | exact Ints.one (by assumption) | exact Rows.one (by assumption) | exact Own.one (by assumption) | exact One.lit ⟨rfl, rfl, rfl⟩)) | exact litT rfl | exact litF rfl | omega | (simp only [List.length_append, List.length_cons, List.length_nil, List.length_set, List.length_reverse]; first | done | omega) | fail) : p := h
attribute [-go_sem] put_ne put_same
attribute [local go_sem ↓] put_if
def othF (L : Lom) (bit : Nat) : Brk → Nat → Bool := fun b x => !(L.ps.getD b.1.toNat prt0).wv || decide (x &&& bit = 0)
theorem lets_other {h : Heap} {id id2 bit : Nat} {v : AVal} {L : Lom} {bad : List Int} {ms : List (List Bool)} (hD : DeskAt h v L bad ms) (hbl : bad.length ≤ 10) (hbit : bit < 2 ^ 62) (hg : h[id]? = some (ptrB v)) (hg2 : h[id2]? = some (intB bit)) :
    Lets h (.fn 146 [] [.ptr (some ⟨id, 0, 0⟩), .ptr (some ⟨id2, 0, 0⟩)]) L bad (othF L bit) := by
  refine ⟨⟨rfl, rfl, rfl⟩, fun base H b x e hb hbp hx => ?_⟩
  obtain ⟨did, mid, pv, sv, bv, rfl, g1, g2, g3, g4, g5, g6, g7⟩ := hD
  have q1 := e.get hg
  have q2 := e.get hg2
  have q3 := e.get g1
  rw [ptrB] at q1
  rw [intB] at q2
  rw [deskB] at q3
  have hlt := lt_of_get q1
  have hlt2 := lt_of_get q2
  have hlt3 := lt_of_get q3
  obtain ⟨vs, hR, hvl, h3⟩ := g2.ext (e.trans (.app (t := [⟨.cells (mdC b x) 138 false false, 0⟩]) .refl))
  have hkl : b.1.toNat < L.ps.length := by omega
  have hx2 : vs[b.1.toNat]? = some vs[b.1.toNat] := List.getElem?_eq_getElem (by omega)
  obtain ⟨j1, j2, j3, j4⟩ := h3 b.1.toNat _ _ hx2 (getD_some (d := prt0) hkl)
  have had := hR.addr (P := prog) (i := b.1) Fc.el22 Fc.ar22 (by omega) (by omega)
  have hfa := elAdr_field (P := prog) (o := 0) hR (show b.1.toNat < vs.length by omega) (show fld prog 81 3 = some (3, false, 1) by kernel_rfl) Nat.one_ne_zero
  have hld := hR.cell (P := prog) (o := 0 + 3) Fc.ty4 hx2 rfl
  rw [j4] at hld
  have h2 : 2 ^ bad.length ≤ 2 ^ 10 := Nat.pow_le_pow_right (by decide) hbl
  have hand := andN (t := 3) (a := x) (b := bit) (by omega) hbit
  simp only [mdC] at hld ⊢
  refine callL_run func146 rfl rfl ?_
  cases hw : (L.ps.getD b.1.toNat prt0).wv with
  | false =>
    rw [hw] at hld
    have hsp := @Nat.succ_ne_zero; repeat' (first | simp (disch := first | exact dschE26 | fail) only [go_sem, ↓reduceIte, hsp, q1, q2, q3, had, hfa, hld] | refine WP_drw ?_ | refine cnd_intro (fun hsp => ?_) fun hsp => ?_)
    refine fB ?_
    unfold othF
    rw [hw]; rfl
  | true =>
    rw [hw] at hld
    have hsp := @Nat.succ_ne_zero; repeat' (first | simp (disch := first | exact dschE26 | fail) only [go_sem, ↓reduceIte, hsp, q1, q2, q3, had, hfa, hld, hand] | refine WP_drw ?_ | refine cnd_intro (fun hsp => ?_) fun hsp => ?_)
    refine fB ?_
    unfold othF
    rw [hw]
    simp only [Bool.not_true, Bool.false_or]
    exact dec_eq (by omega)
set_option maxHeartbeats 1000000 in
theorem run_other {base : Nat} {h : Heap} {v : AVal} {L : Lom} {bad : List Int} {ms : List (List Bool)} {bit : Nat} (hb : base ≤ h.length) (hD : DeskAt h v L bad ms) (hDL : DeskL L bad) (hbit : bit < 2 ^ 62) :
    Ret prog raw base (.fn 103 [] []) [v, .int .i64 (bit : Int)] h (fun w H => Ext h H ∧ ∃ z, w = .agg [.int .i64 ((expM L bad ms (othF L bit)).1 : Int), z] ∧ One z ∧ Own encB 75 0 H z (expM L bad ms (othF L bit)).2) := by
  obtain ⟨h2, eh2⟩ : ∃ h2 : Heap, h2 = h ++ [ptrB v] ++ [intB bit] ++ [⟨.cells [.int .i64 0, .slice none 0 0] 148 false false, 0⟩] := ⟨_, rfl⟩
  have xh2 : Ext h h2 := by rw [eh2]; exact .app (.app (.app .refl))
  obtain ⟨w1, H1, e1, x1, z, rfl, hz, hoz⟩ := run_explained (base := base) (h := h2) (by have := xh2.len; omega) (hD.ext xh2) hDL (lets_other (id := h.length) (id2 := h.length + 1) (hD.ext xh2) hDL.2.1 hbit (by rw [eh2]; simp) (by rw [eh2]; simp))
  have xh := xh2.trans x1
  have q1 := x1.get (show h2[h.length + 2]? = some ⟨.cells [.int .i64 0, .slice none 0 0] 148 false false, 0⟩ by rw [eh2]; simp)
  have q1l := lt_of_get q1
  have hov : One v := by obtain ⟨did, mid, pv, sv, bv, rfl, _⟩ := hD; exact ⟨rfl, rfl, rfl⟩
  have bd := (expM_bd (ms := ms) (f := othF L bit) hDL).1
  rw [eh2, ptrB, intB] at e1 x1
  refine ret_raw func103 rfl (by kernel_rfl) ?_
  have hsp := @Nat.succ_ne_zero; repeat' (first | simp (disch := first | exact dschE26 | fail) only [go_sem, ↓reduceIte, hsp, e1, q1] | refine WP_drw ?_ | refine cnd_intro (fun hsp => ?_) fun hsp => ?_)
  exact ⟨xh.set (by omega), z, rfl, hz, hoz.setBox q1⟩
/-- fault.Weavers. -/
def wvrM (L : Lom) : List Int × Int := if tolE L false ≠ 0 then ([], tolE L false) else (selN (fun k => decide ((expA L (othF L (2 ^ k))).1 = 0)) (fun k => (deskA L).1.getD k 0) (deskA L).1.length, 0)
set_option maxHeartbeats 1000000 in
theorem run_weavers {base : Nat} {h : Heap} {v : AVal} {L : Lom} (hb : base ≤ h.length) (hL : LomAt h v L) (hok : LomOk L) :
    Ret prog raw base (.fn 38 [] []) [v] h (fun w H => Ext h H ∧ ∃ x, w = .tuple [x, .int .i64 (wvrM L).2] ∧ Own encI 3 h.length H x (wvrM L).1) := by
  obtain ⟨pv, sv, rfl, hP, hS⟩ := id hL
  have hp1 := hP.one
  have hs1 := hS.one
  obtain ⟨w1, H1, e1, x1, y, rfl, ho, hd⟩ := run_told (base := base) (h := h ++ [⟨.cells [.int .i64 L.R, .int .i64 L.T, pv, sv] 25 false false, 0⟩]) (b := false) (by simp; omega) (hL.ext (.app .refl)) hok
  have xh := (Ext.app (t := [⟨.cells [.int .i64 L.R, .int .i64 L.T, pv, sv] 25 false false, 0⟩]) (Ext.refl (h := h))).trans x1
  have hH1l := xh.len
  by_cases c1 : tolE L false = 0
  · rw [c1] at e1
    have hD := hd c1
    have hDL := deskL_A (tolE_ok c1).1 hok
    obtain ⟨did, mid, pv', sv', bv, rfl, g1, g2, g3, g4, g5, g6, g7⟩ := id hD
    rw [deskB] at g1
    have r : wvrM L = (selN (fun k => decide ((expA L (othF L (2 ^ k))).1 = 0)) (fun k => (deskA L).1.getD k 0) (deskA L).1.length, 0) := by unfold wvrM; rw [if_neg (by simp [c1])]
    rw [r]
    refine ret_raw func38 rfl (by kernel_rfl) ?_
    have hsp := @Nat.succ_ne_zero; repeat' (first | simp (disch := first | exact dschE26 | fail) only [go_sem, ↓reduceIte, hsp, e1, eq_self, g1, lenI g4] | refine WP_drw ?_ | refine cnd_intro (fun hsp => ?_) fun hsp => ?_)
    refine WP_count [(6, 8), (22, 37)] 0 (deskA L).1.length (Nat.zero_le _) (fun _ i fr h' => fr 22 = .int .i64 (i : Int) ∧ Ext H1 h' ∧ ∃ v, fr 6 = v ∧ Own encI 3 H1.length h' v (selN (fun k => decide ((expA L (othF L (2 ^ k))).1 = 0)) (fun k => (deskA L).1.getD k 0) i)) ?_ ?_ ?_
    · exact ⟨by (simp (disch := first | exact dschE26 | fail) only [go_sem, ↓reduceIte, Int.natCast_zero]; first | done | rfl), .refl, .slice none 0 0, by simp (disch := first | exact dschE26 | fail) only [go_sem, ↓reduceIte], Own.nil⟩
    · rintro i fr H hi0 hi hA ⟨r22, xH, v, r6, hO⟩
      have p2 := hA 2 rfl
      have p3 := hA 3 rfl
      have p4 := hA 4 rfl
      have p20 := hA 20 rfl
      have p21 := hA 21 rfl
      try simp (disch := first | exact dschE26 | fail) only [go_sem, ↓reduceIte] at p2 p3 p4 p20 p21
      have hlt : ((i : Int) < ((deskA L).1.length : Int)) = True := eq_true (by omega)
      have hHl := xH.len
      have hi10 := hDL.2.1
      have p1 : 2 ^ i ≤ 2 ^ 10 := Nat.pow_le_pow_right (by decide) (by omega)
      have s1 := shlN (t := 3) (k := i) (by omega)
      obtain ⟨w2, H2, e2, x2, z, rfl, hz, hoz⟩ := run_other (base := base) (h := H) (bit := 2 ^ i) (by omega) (hD.ext xH) hDL (by omega)
      have ex : expM L (deskA L).1 (deskA L).2 (othF L (2 ^ i)) = expA L (othF L (2 ^ i)) := rfl
      rw [ex] at e2
      have hB := g4.ext xH
      have hl0 := loadI hB hi
      have ha0 := adrI (i := (i : Int)) (by omega) hB (by omega)
      rw [Int.toNat_natCast] at ha0
      have hbv := hDL.2.2.1 _ (getD_mem hi)
      have hsl := hok.2.2.1
      have hO2 := hO.ext x2
      have xH2 := xH.trans x2
      have hH2l := xH2.len
      have hll := selN_len (p := fun k => decide ((expA L (othF L (2 ^ k))).1 = 0)) (g := fun k => (deskA L).1.getD k 0) i
      by_cases c2 : (expA L (othF L (2 ^ i))).1 = 0
      · have t2 : (((expA L (othF L (2 ^ i))).1 : Int) = 0) = True := eq_true (by omega)
        obtain ⟨v', h', ea, hO', hle, hE, h1'⟩ := hO2.append1 (y := (deskA L).1.getD i 0) (base := base) (t := 36) rfl rfl Fc.el36 encI_sc (by omega) (by omega) (by omega)
        have hsp := @Nat.succ_ne_zero; repeat' (first | simp (disch := first | exact dschE26 | fail) only [go_sem, ↓reduceIte, hsp, r22, r6, p2, p3, p4, p20, p21, hlt, ha0, hl0, s1, e2, t2, ea] | refine WP_drw ?_ | refine cnd_intro (fun hsp => ?_) fun hsp => ?_)
        refine ⟨by (repeat first | exact Agree.refl | assumption | refine Agree.put rfl ?_ | refine Agree.put0 ?_ | refine Agree.sub rfl (by assumption) ?_), by omega, hE H1 (Nat.le_refl _) xH2, v', rfl, ?_⟩
        rw [selN, decide_eq_true c2, if_pos rfl]; exact hO'
      · have t2 : (((expA L (othF L (2 ^ i))).1 : Int) = 0) = False := eq_false (by omega)
        have hsp := @Nat.succ_ne_zero; repeat' (first | simp (disch := first | exact dschE26 | fail) only [go_sem, ↓reduceIte, hsp, r22, r6, p2, p3, p4, p20, p21, hlt, ha0, hl0, s1, e2, t2] | refine WP_drw ?_ | refine cnd_intro (fun hsp => ?_) fun hsp => ?_)
        refine ⟨by (repeat first | exact Agree.refl | assumption | refine Agree.put rfl ?_ | refine Agree.put0 ?_ | refine Agree.sub rfl (by assumption) ?_), by omega, xH2, v, rfl, ?_⟩
        rw [selN, decide_eq_false c2, if_neg (by simp), List.append_nil]; exact hO2
    · rintro fr H hA ⟨r22, xH, v, r6, hO⟩
      have p2 := hA 2 rfl
      have p3 := hA 3 rfl
      have p4 := hA 4 rfl
      have p20 := hA 20 rfl
      have p21 := hA 21 rfl
      try simp (disch := first | exact dschE26 | fail) only [go_sem, ↓reduceIte] at p2 p3 p4 p20 p21
      have hlt : (((deskA L).1.length : Int) < ((deskA L).1.length : Int)) = False := eq_false (by omega)
      have hsp := @Nat.succ_ne_zero; repeat' (first | simp (disch := first | exact dschE26 | fail) only [go_sem, ↓reduceIte, hsp, r22, r6, p2, p3, p4, p20, p21, hlt] | refine WP_drw ?_ | refine cnd_intro (fun hsp => ?_) fun hsp => ?_)
      exact ⟨xh.trans xH, v, rfl, hO.low (by omega)⟩
  · have t1 : (tolE L false = 0) = False := eq_false c1
    have r : wvrM L = ([], tolE L false) := by unfold wvrM; rw [if_pos c1]
    rw [r]
    refine ret_raw func38 rfl (by kernel_rfl) ?_
    have hsp := @Nat.succ_ne_zero; repeat' (first | simp (disch := first | exact dschE26 | fail) only [go_sem, ↓reduceIte, hsp, e1, t1] | refine WP_drw ?_ | refine cnd_intro (fun hsp => ?_) fun hsp => ?_)
    exact ⟨xh, _, rfl, Own.nil⟩
/-- fault.Other. -/
def othM (L : Lom) (i : Int) : List Brk × Int :=
  if chkM L ≠ 0 then ([], chkM L) else if sgtB L i = false then ([], 1) else if badI L i = false then ([], 8) else if tolE L false ≠ 0 then ([], tolE L false) else
    if (expA L (othF L (2 ^ ixB L i))).1 = 0 then ([], 6) else ((expA L (othF L (2 ^ ixB L i))).2, 0)
end Go.AM
