/-
  The law CardMoved.
-/
import Derived.Test.YtppkmjfplhenmaaM0
import Derived.Test.YtppkmjfplhenmaaP8
set_option linter.unusedSimpArgs false
set_option linter.unusedVariables false
namespace Go.AM
open Go.Proofs.Try
theorem dschM5 {p : Prop} (h : p := by first | exact Nat.ne_of_beq_eq_false rfl | assumption | (apply asOne; (first | exact One.int | exact One.bool | exact newV_one | exact nlV_one | exact grV_one | exact cloneV_one | exact takF_one | assumption | exact Ints.one (by assumption) | exact slcV_one (by assumption) | exact Bytes.one (by assumption) | exact One.lit ⟨rfl, rfl, rfl⟩)) | (apply asSp; (repeat first | assumption | apply SpAt.set | (refine SpAt.new ?_ (by (first | rfl | (simp only [List.length_append, List.length_cons, List.length_nil, List.length_set]; done) | (simp only [List.length_append, List.length_cons, List.length_nil, List.length_set]; omega)))) | apply SpAt.app | apply Bytes.app); done) | (apply asBytes; (repeat first | assumption | apply Bytes.app); done) | (apply asInts; first | ((repeat first | assumption | (apply nlV_ints <;> first | assumption | (first | rfl | (simp only [List.length_append, List.length_cons, List.length_nil, List.length_set]; done) | (simp only [List.length_append, List.length_cons, List.length_nil, List.length_set]; omega))) | exact ints_nil | (apply newV_ints' <;> first | assumption | (first | rfl | (simp only [List.length_append, List.length_cons, List.length_nil, List.length_set]; done) | (simp only [List.length_append, List.length_cons, List.length_nil, List.length_set]; omega))) | (apply grV_ints <;> first | assumption | (first | rfl | (simp only [List.length_append, List.length_cons, List.length_nil, List.length_set]; done) | (simp only [List.length_append, List.length_cons, List.length_nil, List.length_set]; omega))) | (apply Ints.slc <;> first | (repeat first | assumption | apply Ints.app); done | omega) | apply Ints.app); done) | ((repeat first | (apply slice_row <;> first | assumption | (first | rfl | (simp only [List.length_append, List.length_cons, List.length_nil, List.length_set]; done) | (simp only [List.length_append, List.length_cons, List.length_nil, List.length_set]; omega))) | apply Ints.app); done)) | (apply asTak; (repeat first | assumption | (refine TakAt.new ?_; (first | rfl | (simp only [List.length_append, List.length_cons, List.length_nil, List.length_set]; done) | (simp only [List.length_append, List.length_cons, List.length_nil, List.length_set]; omega))) | apply TakAt.app); done) | (apply asScal; (first | apply allS1 | apply allS2 | apply allS3 | apply allS4) <;> (first | exact One.int | exact One.bool | exact newV_one | exact nlV_one | exact grV_one | exact cloneV_one | exact takF_one | assumption | exact Ints.one (by assumption) | exact slcV_one (by assumption) | exact Bytes.one (by assumption) | exact One.lit ⟨rfl, rfl, rfl⟩)) | exact litT rfl | exact litF rfl | omega | (simp only [List.length_append, List.length_cons, List.length_nil, lst_len, List.length_set, ints_length, List.length_reverse]; first | done | omega) | fail) : p := h
attribute [-go_sem] put_ne put_same
attribute [local go_sem ↓] put_if


theorem st5 {base : Nat} {l : List Oper} {s : St} {Q : AExit → St → Prop} : WP prog raw base (.region 3 l.toArray true) s Q = WPS prog raw base (.region 3 l.toArray true) s Q := WP_stop
attribute [local go_sem ↓ 3000] st5
theorem st5b {base : Nat} {l : List Oper} {s : St} {Q : AExit → St → Prop} : WP prog raw base (.region 7 l.toArray true) s Q = WPS prog raw base (.region 7 l.toArray true) s Q := WP_stop
attribute [local go_sem ↓ 3000] st5b
theorem st5c {base : Nat} {l : List Oper} {s : St} {Q : AExit → St → Prop} : WP prog raw base (.region 13 l.toArray false) s Q = WPS prog raw base (.region 13 l.toArray false) s Q := WP_stop
attribute [local go_sem ↓ 3000] st5c
theorem st5d {base : Nat} {l : List Oper} {s : St} {Q : AExit → St → Prop} : WP prog raw base (.region 16 l.toArray true) s Q = WPS prog raw base (.region 16 l.toArray true) s Q := WP_stop
attribute [local go_sem ↓ 3000] st5d
set_option maxRecDepth 100000 in
set_option maxHeartbeats 1000000 in
theorem run5 (hA : Awake) {base : Nat} {h : Heap} {v : AVal} {silk : List Int} {x1 : Int} (hB : Bytes h v silk) (hx1 : 0 ≤ x1 ∧ x1 ≤ 255) :
    callL prog raw base (.fn 5 [] []) [v, .int .u8 x1] h = some (.bool true, h) := by
  unfold Awake at hA
  obtain ⟨W, K, S, L, C, E, hL, hC, hW, hLl, hCl, hE, hmd⟩ := md_pkg (silk := silk) (k := 0) (width := 6) (cards := 8) (throws := 30) (changed := 2) (by omega) (by omega) (by omega) (by omega) (by omega)
  obtain ⟨hw8, hn, hx⟩ := chk_ok hL
  obtain ⟨w, rfl⟩ := Int.eq_ofNat_of_zero_le (show 0 ≤ W by omega)
  have r1 := remN (x := x1) (n := w) hx1.1 (by omega)
  have hb := Nat.mod_lt x1.toNat (show w > 0 by omega)
  generalize x1.toNat % w = b at *
  have h256 : 2 ^ w ≤ 256 := Nat.le_trans (Nat.pow_le_pow_right (by decide) (show w ≤ 8 by omega)) (by decide)
  have hB1 : ((2 : Int) ^ w) = ((2 ^ w : Nat) : Int) := by simp
  have hBp : 0 < 2 ^ w := Nat.pow_pos (by decide)
  have hshl : ∀ {t : TypeId}, binA prog .shl t (.int .i64 1) (.int .i64 (w : Int)) = some (.int .i64 ((2 ^ w : Nat) : Int)) := fun {t} => by
    rw [bin_shl (by omega)]
    have e1 : min ((w : Int)).toNat IntKind.i64.bits = w := by simp [IntKind.bits]; omega
    rw [e1, Int.one_mul, hB1, wrap64 (by omega) (by omega)]
  have hM := mov_ok (b := b) hL (by omega)
  have hQ := cpl_ok hL
  have fM := mov_few (b := b) hL (by omega)
  have fQ := cpl_few hL
  have hbd := fewest_bd hL
  have e1 := few_eq hL
  have e2 := few_eq hM
  have e3 := few_eq hQ
  rw [fM] at e2
  rw [fQ] at e3
  simp only [Int.toNat_natCast] at hM hQ fM fQ hbd e1 e2 e3
  have lM : (movL w L b).length = L.length := mov_len
  have lQ : (cplL w L).length = L.length := cpl_len
  obtain ⟨m, hm⟩ : ∃ m : Nat, (fewestS w L).2.1 = m := ⟨(fewestS w L).2.1.toNat, by omega⟩
  obtain ⟨fk, hfk⟩ : ∃ k, (fewestS w L).1 = k := ⟨_, rfl⟩
  obtain ⟨fs, hfs⟩ : ∃ s, (fewestS w L).2.2 = s := ⟨_, rfl⟩
  rw [hm] at hbd
  rw [hm, hfk, hfs, Int.toNat_natCast] at e1 e2 e3
  have hin : ∀ t, t < L.length → 0 ≤ L.getD t 0 ∧ L.getD t 0 ≤ 2 ^ ((w : Int)).toNat - 1 := fun t ht => hx _ (getD_mem ht)
  have hin2 : ∀ t, t < L.length → 0 ≤ L.getD t 0 ∧ L.getD t 0 < ((2 ^ w : Nat) : Int) := fun t ht => by
    have := hin t ht
    rw [Int.toNat_natCast, hB1] at this
    omega
  have tk : ∀ {l : List Int} {t : Nat}, t < m → (l.take m).getD t 0 = l.getD t 0 := fun {l t} h => getD_take h
  have aL : (L.take m).length = m := by rw [List.length_take]; omega
  have aM : ((movL w L b).take m).length = m := by rw [List.length_take]; omega
  have aQ : ((cplL w L).take m).length = m := by rw [List.length_take]; omega
  have gM : ∀ t, t < m → ((movL w L b).take m).getD t 0 = ((rotN ((L.take m).getD t 0).toNat b w : Nat) : Int) := fun t ht => by rw [tk ht, tk ht, mov_get (by omega)]
  have gQ : ∀ t, t < m → ((cplL w L).take m).getD t 0 = ((2 ^ w : Nat) : Int) - 1 - (L.take m).getD t 0 := fun t ht => by rw [tk ht, tk ht, cpl_get (by omega)]
  have hinA : ∀ t, t < m → 0 ≤ (L.take m).getD t 0 ∧ (L.take m).getD t 0 ≤ 2 ^ ((w : Int)).toNat - 1 := fun t ht => by rw [tk ht]; exact hin t (by omega)
  have hinA2 : ∀ t, t < m → 0 ≤ (L.take m).getD t 0 ∧ (L.take m).getD t 0 < ((2 ^ w : Nat) : Int) := fun t ht => by rw [tk ht]; exact hin2 t (by omega)
  have hsL := small_of hL
  have hsM := small_of hM
  have hsQ := small_of hQ
  have sA := small_take (n := m) hsL
  have sM := small_take (n := m) hsM
  have sQ := small_take (n := m) hsQ
  generalize L.take m = A at *
  generalize (movL w L b).take m = AM at *
  generalize (cplL w L).take m = AQ at *
  have hneL : L ≠ [] := by rintro rfl; simp at hn
  have hneA : A ≠ [] := by rintro rfl; simp at aL; omega
  have hneM : AM ≠ [] := by rintro rfl; simp at aM; omega
  have hneQ : AQ ≠ [] := by rintro rfl; simp at aQ; omega
  have n1 : ∀ {n : Nat}, nlV n A = .slice (some ⟨n, 0, 0⟩) A.length A.length := fun {n} => nlV_ne hneA
  have n2 : ∀ {n : Nat}, nlV n AM = .slice (some ⟨n, 0, 0⟩) AM.length AM.length := fun {n} => nlV_ne hneM
  have n3 : ∀ {n : Nat}, nlV n AQ = .slice (some ⟨n, 0, 0⟩) AQ.length AQ.length := fun {n} => nlV_ne hneQ
  have n4 : newH A = [rowB A 0] := newH_ne hneA
  have n5 : newH AM = [rowB AM 0] := newH_ne hneM
  have n6 : newH AQ = [rowB AQ 0] := newH_ne hneQ
  have n7 : ∀ {n : Nat}, newV n L = .slice (some ⟨n, 0, 0⟩) L.length L.length := fun {n} => newV_ne hneL
  have n8 : newH L = [rowB L 0] := newH_ne hneL
  have hrow0 : lst (fun t => L.getD t 0) L.length = L := lst_ext lst_len fun j hj => by rw [lst_len] at hj; rw [lst_get hj]
  obtain ⟨f, ef⟩ : ∃ f : Nat → Int, f = fun t => ((rotN (L.getD t 0).toNat b w : Nat) : Int) := ⟨_, rfl⟩
  obtain ⟨g, eg⟩ : ∃ g : Nat → Int, g = fun t => ((2 ^ w : Nat) : Int) - 1 - L.getD t 0 := ⟨_, rfl⟩
  have hf : ∀ t, ((rotN (L.getD t 0).toNat b w : Nat) : Int) = f t := fun t => by rw [ef]
  have hg : ∀ t, ((2 ^ w : Nat) : Int) - 1 - L.getD t 0 = g t := fun t => by rw [eg]
  have allM : lst f L.length = movL w L b := by rw [ef]; rfl
  have allQ : lst g L.length = cplL w L := by rw [eg]; rfl
  generalize movL w L b = LM at *
  generalize cplL w L = LQ at *
  generalize 2 ^ w = B at *
  refine callL_run func5 rfl rfl ?_
  have hsp := @Nat.succ_ne_zero; repeat' (first | simp (disch := first | exact Nat.ne_of_beq_eq_false rfl | assumption | exact dschM5 | fail) only [go_sem, ↓reduceIte, hsp, chn, pap, run32, hmd, e1, n1, n4] | refine WP_draw (by kernel_rfl) ?_ | refine cnd_intro (fun hsp => ?_) (fun hsp => ?_))
  refine WPS_rest fun F G eF eG => ?_
  refine WP_draw (by kernel_rfl) ?_
  have kF1 := congrFun eF 1; (try simp (disch := first | exact Nat.ne_of_beq_eq_false rfl | assumption | exact dschM5 | fail) only [go_sem, ↓reduceIte] at kF1)
  have kF5 := congrFun eF 5; (try simp (disch := first | exact Nat.ne_of_beq_eq_false rfl | assumption | exact dschM5 | fail) only [go_sem, ↓reduceIte] at kF5)
  have kF6 := congrFun eF 6; (try simp (disch := first | exact Nat.ne_of_beq_eq_false rfl | assumption | exact dschM5 | fail) only [go_sem, ↓reduceIte] at kF6)
  have kF7 := congrFun eF 7; (try simp (disch := first | exact Nat.ne_of_beq_eq_false rfl | assumption | exact dschM5 | fail) only [go_sem, ↓reduceIte] at kF7)
  have kF8 := congrFun eF 8; (try simp (disch := first | exact Nat.ne_of_beq_eq_false rfl | assumption | exact dschM5 | fail) only [go_sem, ↓reduceIte] at kF8)
  have gF5 := congrArg (fun X => atP X (F 5)) eG; (try simp only [kF5, atP_ptr] at gF5); (try simp (disch := first | exact Nat.ne_of_beq_eq_false rfl | assumption | exact dschM5 | fail) only [go_sem, ↓reduceIte] at gF5)
  have gF7 := congrArg (fun X => atP X (F 7)) eG; (try simp only [kF7, atP_ptr] at gF7); (try simp (disch := first | exact Nat.ne_of_beq_eq_false rfl | assumption | exact dschM5 | fail) only [go_sem, ↓reduceIte] at gF7)
  have lG := congrArg List.length eG; (try simp (disch := first | exact Nat.ne_of_beq_eq_false rfl | assumption | exact dschM5 | fail) only [go_sem, ↓reduceIte] at lG)
  have xG : Ext h G := by rw [eG]; repeat' first | exact Ext.refl | refine Ext.app ?_
  obtain ⟨a5, k5, V5, g5, i5⟩ : ∃ a, F 5 = .ptr (some ⟨a, 0, 0⟩) ∧ ∃ V, G[a]? = some ⟨.cells [.int .i64 (w : Int), V] 24 false false, 0⟩ ∧ Ints G V (L) := ⟨_, kF5, _, gF5, by rw [eG]; exact dschM5⟩
  have b5 := lt_of_get g5; clear kF5 gF5
  obtain ⟨a7, k7, V7, g7, i7⟩ : ∃ a, F 7 = .ptr (some ⟨a, 0, 0⟩) ∧ ∃ V, G[a]? = some ⟨.cells [.int .i64 (w : Int), V, .int .i64 fk, .int .i64 fs] 34 false false, 0⟩ ∧ Ints G V (A) := ⟨_, kF7, _, gF7, by rw [eG]; exact dschM5⟩
  have b7 := lt_of_get g7; clear kF7 gF7
  clear eG lG eF
  have hG := xG.len
  have hsp := @Nat.succ_ne_zero; repeat' (first | simp (disch := first | exact Nat.ne_of_beq_eq_false rfl | assumption | exact dschM5 | fail) only [go_sem, ↓reduceIte, hsp, chn, pap, run21, kF1, k5, kF6, k7, kF8, g5, g7, g5, g7, n7, n8, Fc.ln22, eq_self, decide_true, if_true, Bool.false_eq_true] | refine WP_draw (by kernel_rfl) ?_ | refine cnd_intro (fun hsp => ?_) (fun hsp => ?_))
  refine WP_count [(11, 12), (37, 65)] 0 L.length (Nat.zero_le _) (fun H i fr h => fr 37 = .int .i64 (i : Int) ∧ h = G ++ [rowB (lst (fun t => if t < i then f t else L.getD t 0) L.length) 0] ++ [rowB (lst (fun t => if t < i then g t else L.getD t 0) L.length) 0] ++ [⟨.cells [.int .i64 (w : Int), .slice (some ⟨G.length, 0, 0⟩) L.length L.length] 24 false false, 0⟩] ++ [⟨.cells [.int .i64 (w : Int), .slice (some ⟨G.length + 1, 0, 0⟩) L.length L.length] 24 false false, 0⟩]) ?_ ?_ ?_
  · exact ⟨by (simp (disch := first | exact Nat.ne_of_beq_eq_false rfl | assumption | exact dschM5 | fail) only [go_sem, ↓reduceIte, Int.natCast_zero]; first | done | rfl), by simp only [Nat.not_lt_zero, if_false, hrow0]⟩
  · rintro i fr H hi0 hi hG1 ⟨r37, rfl⟩
    have p1 := hG1 1 rfl; (try simp (disch := first | exact Nat.ne_of_beq_eq_false rfl | assumption | exact dschM5 | fail) only [go_sem, ↓reduceIte, kF1] at p1)
    have p5 := hG1 5 rfl; (try simp (disch := first | exact Nat.ne_of_beq_eq_false rfl | assumption | exact dschM5 | fail) only [go_sem, ↓reduceIte, k5] at p5)
    have p9 := hG1 9 rfl; (try simp (disch := first | exact Nat.ne_of_beq_eq_false rfl | assumption | exact dschM5 | fail) only [go_sem, ↓reduceIte] at p9)
    have p10 := hG1 10 rfl; (try simp (disch := first | exact Nat.ne_of_beq_eq_false rfl | assumption | exact dschM5 | fail) only [go_sem, ↓reduceIte] at p10)
    have p35 := hG1 35 rfl; (try simp (disch := first | exact Nat.ne_of_beq_eq_false rfl | assumption | exact dschM5 | fail) only [go_sem, ↓reduceIte] at p35)
    have p36 := hG1 36 rfl; (try simp (disch := first | exact Nat.ne_of_beq_eq_false rfl | assumption | exact dschM5 | fail) only [go_sem, ↓reduceIte] at p36)
    have hlt : ((i : Int) < (L.length : Int)) = True := eq_true (by omega)
    have hii : (i : Int) < (L.length : Int) := by omega
    have hi1 := hin i hi
    have hi2 := hin2 i hi
    have hfi := hf i
    have hgi := hg i
    have hset : ∀ u : Nat → Int, (fun j => if j = i then u i else (if j < i then u j else L.getD j 0)) = (fun t => if t < i + 1 then u t else L.getD t 0) := fun u => by
      funext j
      by_cases e : j = i
      · subst e; rw [if_pos rfl, if_pos (by omega)]
      · rw [if_neg e]
        by_cases e2 : j < i
        · rw [if_pos e2, if_pos (by omega)]
        · rw [if_neg e2, if_neg (by omega)]
    have hset1 := hset f
    have hset2 := hset g
    have hsp := @Nat.succ_ne_zero; repeat' (first | simp (disch := first | exact Nat.ne_of_beq_eq_false rfl | assumption | exact dschM5 | fail) only [go_sem, ↓reduceIte, hsp, chn, pap, r37, p1, p5, p9, p10, p35, p36, g5, hlt, Int.toNat_natCast] | refine WP_draw (by kernel_rfl) ?_ | refine cnd_intro (fun hsp => ?_) (fun hsp => ?_))
    refine WPS_go ?_
    refine WP_loose [⟨4, 22, 45, ⟨G.length + 1 + 1 + 1, 0, 1⟩, .slice (some ⟨G.length + 1, 0, 0⟩) L.length L.length, 100⟩, ⟨16, 3, 57, ⟨a5, 0, 0⟩, .int .i64 (w : Int), 100⟩] (by kernel_rfl) (by kernel_rfl) ⟨refsLow_slice (by simp only [List.length_append, List.length_cons, List.length_nil]; omega), refsLow_int, trivial⟩ fun K hK => ?_
    iterate 25
      rw [TRS_cons]
      refine ⟨by first | (simp (disch := first | exact Nat.ne_of_beq_eq_false rfl | assumption | exact dschM5 | fail) only [go_sem, ↓reduceIte, chn, r37, p1, p5, p9, p10, p35, p36, g5, cvt53, r1, hshl, hfi, hgi, hset1, hset2, Fc.as22, Int.toNat_natCast, ldsQ_cons, ldsQ_nil, if_true, Nat.reduceLeDiff]; done) | exact trivial, ?_⟩
      simp (disch := first | exact Nat.ne_of_beq_eq_false rfl | assumption | exact dschM5 | fail) only [go_sem, ↓reduceIte, chn, r37, p1, p5, p9, p10, p35, p36, g5, cvt53, r1, hshl, hfi, hgi, hset1, hset2, Fc.as22, Int.toNat_natCast]
    rw [TRS_nil]
    refine ⟨by first | (simp (disch := first | exact Nat.ne_of_beq_eq_false rfl | assumption | exact dschM5 | fail) only [go_sem, ↓reduceIte, chn, r37, p1, p5, p9, p10, p35, p36, g5, cvt53, r1, hshl, hfi, hgi, hset1, hset2, Fc.as22, Int.toNat_natCast, ldsQ_cons, ldsQ_nil, if_true, Nat.reduceLeDiff]; done) | exact trivial, ?_⟩
    subst hK
    have hsp := @Nat.succ_ne_zero; repeat' (first | simp (disch := first | exact Nat.ne_of_beq_eq_false rfl | assumption | exact dschM5 | fail) only [go_sem, ↓reduceIte, hsp, r37, p1, p5, p9, p10, p35, p36, hlt] | refine WP_draw (by kernel_rfl) ?_ | refine cnd_intro (fun hsp => ?_) (fun hsp => ?_))
    first | exact ⟨by (repeat first | exact Agree.refl | assumption | refine Agree.put rfl ?_ | refine Agree.put0 ?_ | refine Agree.sub rfl (by assumption) ?_), by first | rfl | omega | (simp (disch := first | exact Nat.ne_of_beq_eq_false rfl | assumption | exact dschM5 | fail) only [go_sem, ↓reduceIte, Int.natCast_zero]; first | done | rfl)⟩ | exact ⟨by (repeat first | exact Agree.refl | assumption | refine Agree.put rfl ?_ | refine Agree.put0 ?_ | refine Agree.sub rfl (by assumption) ?_), by first | rfl | omega | (simp (disch := first | exact Nat.ne_of_beq_eq_false rfl | assumption | exact dschM5 | fail) only [go_sem, ↓reduceIte, Int.natCast_zero]; first | done | rfl), rfl⟩ | exact (by (repeat first | exact Agree.refl | assumption | refine Agree.put rfl ?_ | refine Agree.put0 ?_ | refine Agree.sub rfl (by assumption) ?_))
  · rintro fr H hG1 ⟨r37, rfl⟩
    have q1 := hG1 1 rfl; (try simp (disch := first | exact Nat.ne_of_beq_eq_false rfl | assumption | exact dschM5 | fail) only [go_sem, ↓reduceIte, kF1] at q1)
    have q5 := hG1 5 rfl; (try simp (disch := first | exact Nat.ne_of_beq_eq_false rfl | assumption | exact dschM5 | fail) only [go_sem, ↓reduceIte, k5] at q5)
    have q7 := hG1 7 rfl; (try simp (disch := first | exact Nat.ne_of_beq_eq_false rfl | assumption | exact dschM5 | fail) only [go_sem, ↓reduceIte, k7] at q7)
    have q8 := hG1 8 rfl; (try simp (disch := first | exact Nat.ne_of_beq_eq_false rfl | assumption | exact dschM5 | fail) only [go_sem, ↓reduceIte, kF8] at q8)
    have q9 := hG1 9 rfl; (try simp (disch := first | exact Nat.ne_of_beq_eq_false rfl | assumption | exact dschM5 | fail) only [go_sem, ↓reduceIte] at q9)
    have q10 := hG1 10 rfl; (try simp (disch := first | exact Nat.ne_of_beq_eq_false rfl | assumption | exact dschM5 | fail) only [go_sem, ↓reduceIte] at q10)
    have q35 := hG1 35 rfl; (try simp (disch := first | exact Nat.ne_of_beq_eq_false rfl | assumption | exact dschM5 | fail) only [go_sem, ↓reduceIte] at q35)
    have q36 := hG1 36 rfl; (try simp (disch := first | exact Nat.ne_of_beq_eq_false rfl | assumption | exact dschM5 | fail) only [go_sem, ↓reduceIte] at q36)
    have hlt : (((L.length : Nat) : Int) < (L.length : Int)) = False := eq_false (by omega)
    have w1 : lst (fun t => if t < L.length then f t else L.getD t 0) L.length = LM := by rw [← allM]; exact lst_congr fun t ht => if_pos ht
    have w2 : lst (fun t => if t < L.length then g t else L.getD t 0) L.length = LQ := by rw [← allQ]; exact lst_congr fun t ht => if_pos ht
    rw [w1, w2]
    have lM2 := lM.symm
    have lQ2 := lQ.symm
    have iM : Ints (G ++ [rowB LM 0] ++ [rowB LQ 0] ++ [⟨.cells [.int .i64 (w : Int), .slice (some ⟨G.length, 0, 0⟩) L.length L.length] 24 false false, 0⟩] ++ [⟨.cells [.int .i64 (w : Int), .slice (some ⟨G.length + 1, 0, 0⟩) L.length L.length] 24 false false, 0⟩] ++ [rowB AM 0]) (.slice (some ⟨G.length + 1 + 1 + 1 + 1, 0, 0⟩) AM.length AM.length) AM := slice_row (by simp) rfl sM
    have iQ : Ints (G ++ [rowB LM 0] ++ [rowB LQ 0] ++ [⟨.cells [.int .i64 (w : Int), .slice (some ⟨G.length, 0, 0⟩) L.length L.length] 24 false false, 0⟩] ++ [⟨.cells [.int .i64 (w : Int), .slice (some ⟨G.length + 1, 0, 0⟩) L.length L.length] 24 false false, 0⟩] ++ [rowB AM 0] ++ [⟨.cells [.int .i64 (w : Int), .slice (some ⟨G.length + 1 + 1 + 1 + 1, 0, 0⟩) AM.length AM.length, .int .i64 fk, .int .i64 fs] 34 false false, 0⟩] ++ [rowB AQ 0]) (.slice (some ⟨G.length + 1 + 1 + 1 + 1 + 1 + 1, 0, 0⟩) AQ.length AQ.length) AQ := slice_row (by simp) rfl sQ
    have bL : (A.length : Int) = m := by omega
    have bM : (AM.length : Int) = m := by omega
    have bQ : (AQ.length : Int) = m := by omega
    have hsp := @Nat.succ_ne_zero; repeat' (first | simp (disch := first | exact Nat.ne_of_beq_eq_false rfl | assumption | exact dschM5 | fail) only [go_sem, ↓reduceIte, hsp, chn, pap, r37, q1, q5, q7, q8, q9, q10, q35, q36, g5, g7, hlt, e2, e3, n2, n3, n5, n6, bL, bM, bQ, Fc.ln22, eq_self, decide_true, if_true, Bool.false_eq_true] | refine WP_draw (by kernel_rfl) ?_ | refine cnd_intro (fun hsp => ?_) (fun hsp => ?_))
    refine WPS_restF fun Y eY => ?_
    rw [WP_region]
    have kY1 := congrFun eY 1; (try simp (disch := first | exact Nat.ne_of_beq_eq_false rfl | assumption | exact dschM5 | fail) only [go_sem, ↓reduceIte, q1] at kY1)
    have kY5 := congrFun eY 5; (try simp (disch := first | exact Nat.ne_of_beq_eq_false rfl | assumption | exact dschM5 | fail) only [go_sem, ↓reduceIte, q5] at kY5)
    have kY7 := congrFun eY 7; (try simp (disch := first | exact Nat.ne_of_beq_eq_false rfl | assumption | exact dschM5 | fail) only [go_sem, ↓reduceIte, q7] at kY7)
    have kY13 := congrFun eY 13; (try simp (disch := first | exact Nat.ne_of_beq_eq_false rfl | assumption | exact dschM5 | fail) only [go_sem, ↓reduceIte] at kY13)
    have kY15 := congrFun eY 15; (try simp (disch := first | exact Nat.ne_of_beq_eq_false rfl | assumption | exact dschM5 | fail) only [go_sem, ↓reduceIte] at kY15)
    clear eY
    have hsp := @Nat.succ_ne_zero; repeat' (first | simp (disch := first | exact Nat.ne_of_beq_eq_false rfl | assumption | exact dschM5 | fail) only [go_sem, ↓reduceIte, hsp, kY1, kY5, kY7, kY13, kY15, g7, bL, Fc.ln22] | refine WP_draw (by kernel_rfl) ?_ | refine cnd_intro (fun hsp => ?_) (fun hsp => ?_))
    refine WP_count [(17, 18), (135, 169)] 0 m (Nat.zero_le _) (fun H i fr h => fr 135 = .int .i64 (i : Int) ∧ h = H) ?_ ?_ ?_
    · exact ⟨by (simp (disch := first | exact Nat.ne_of_beq_eq_false rfl | assumption | exact dschM5 | fail) only [go_sem, ↓reduceIte, Int.natCast_zero]; first | done | rfl), rfl⟩
    · rintro i fr2 H hi0 hi hG2 ⟨r135, rfl⟩
      have u1 := hG2 1 rfl; (try simp (disch := first | exact Nat.ne_of_beq_eq_false rfl | assumption | exact dschM5 | fail) only [go_sem, ↓reduceIte, kY1] at u1)
      have u5 := hG2 5 rfl; (try simp (disch := first | exact Nat.ne_of_beq_eq_false rfl | assumption | exact dschM5 | fail) only [go_sem, ↓reduceIte, kY5] at u5)
      have u13 := hG2 13 rfl; (try simp (disch := first | exact Nat.ne_of_beq_eq_false rfl | assumption | exact dschM5 | fail) only [go_sem, ↓reduceIte, kY13] at u13)
      have u15 := hG2 15 rfl; (try simp (disch := first | exact Nat.ne_of_beq_eq_false rfl | assumption | exact dschM5 | fail) only [go_sem, ↓reduceIte, kY15] at u15)
      have u133 := hG2 133 rfl; (try simp (disch := first | exact Nat.ne_of_beq_eq_false rfl | assumption | exact dschM5 | fail) only [go_sem, ↓reduceIte] at u133)
      have u134 := hG2 134 rfl; (try simp (disch := first | exact Nat.ne_of_beq_eq_false rfl | assumption | exact dschM5 | fail) only [go_sem, ↓reduceIte] at u134)
      have hlt : ((i : Int) < (m : Int)) = True := eq_true (by omega)
      have hii : (i : Int) < (A.length : Int) := by omega
      have adM : indexAddrA prog 22 (.slice (some ⟨G.length + 1 + 1 + 1 + 1, 0, 0⟩) AM.length AM.length) (.int .i64 (i : Int)) = some (elAddr (.slice (some ⟨G.length + 1 + 1 + 1 + 1, 0, 0⟩) AM.length AM.length) i) := by have := iM.addr (i := (i : Int)) Fc.el22 Fc.ar22 (by omega) (by omega); rwa [Int.toNat_natCast] at this
      have adQ : indexAddrA prog 22 (.slice (some ⟨G.length + 1 + 1 + 1 + 1 + 1 + 1, 0, 0⟩) AQ.length AQ.length) (.int .i64 (i : Int)) = some (elAddr (.slice (some ⟨G.length + 1 + 1 + 1 + 1 + 1 + 1, 0, 0⟩) AQ.length AQ.length) i) := by have := iQ.addr (i := (i : Int)) Fc.el22 Fc.ar22 (by omega) (by omega); rwa [Int.toNat_natCast] at this
      have hii2 : (i : Int) < (AM.length : Int) := by omega
      have hii3 : (i : Int) < (AQ.length : Int) := by omega
      have hi1 := hinA i hi
      have hi2 := hinA2 i hi
      have hfi := gM i hi
      have hgi := gQ i hi
      have hsp := @Nat.succ_ne_zero; repeat' (first | simp (disch := first | exact Nat.ne_of_beq_eq_false rfl | assumption | exact dschM5 | fail) only [go_sem, ↓reduceIte, hsp, chn, pap, r135, u1, u5, u13, u15, u133, u134, g5, g7, hlt, Int.toNat_natCast] | refine WP_draw (by kernel_rfl) ?_ | refine cnd_intro (fun hsp => ?_) (fun hsp => ?_))
      refine WPS_go ?_
      refine WP_loose [] (by kernel_rfl) (by kernel_rfl) trivial fun K hK => ?_
      iterate 29
        rw [TRS_cons]
        refine ⟨by first | (simp (disch := first | exact Nat.ne_of_beq_eq_false rfl | assumption | exact dschM5 | fail) only [go_sem, ↓reduceIte, chn, ↓adM, ↓adQ, r135, u1, u5, u13, u15, u133, u134, g5, cvt53, r1, hshl, hfi, hgi, Int.toNat_natCast, eq_self, decide_true, if_true, Bool.false_eq_true, ldsQ_cons, ldsQ_nil, if_true, Nat.reduceLeDiff]; done) | exact trivial, ?_⟩
        simp (disch := first | exact Nat.ne_of_beq_eq_false rfl | assumption | exact dschM5 | fail) only [go_sem, ↓reduceIte, chn, ↓adM, ↓adQ, r135, u1, u5, u13, u15, u133, u134, g5, cvt53, r1, hshl, hfi, hgi, Int.toNat_natCast, eq_self, decide_true, if_true, Bool.false_eq_true]
      rw [TRS_nil]
      refine ⟨by first | (simp (disch := first | exact Nat.ne_of_beq_eq_false rfl | assumption | exact dschM5 | fail) only [go_sem, ↓reduceIte, chn, ↓adM, ↓adQ, r135, u1, u5, u13, u15, u133, u134, g5, cvt53, r1, hshl, hfi, hgi, Int.toNat_natCast, eq_self, decide_true, if_true, Bool.false_eq_true, ldsQ_cons, ldsQ_nil, if_true, Nat.reduceLeDiff]; done) | exact trivial, ?_⟩
      subst hK
      have hsp := @Nat.succ_ne_zero; repeat' (first | simp (disch := first | exact Nat.ne_of_beq_eq_false rfl | assumption | exact dschM5 | fail) only [go_sem, ↓reduceIte, hsp, r135, u1, u5, u13, u15, u133, u134, hlt, eq_self, decide_true, if_true, Bool.false_eq_true] | refine WP_draw (by kernel_rfl) ?_ | refine cnd_intro (fun hsp => ?_) (fun hsp => ?_))
      first | exact ⟨by (repeat first | exact Agree.refl | assumption | refine Agree.put rfl ?_ | refine Agree.put0 ?_ | refine Agree.sub rfl (by assumption) ?_), by first | rfl | omega | (simp (disch := first | exact Nat.ne_of_beq_eq_false rfl | assumption | exact dschM5 | fail) only [go_sem, ↓reduceIte, Int.natCast_zero]; first | done | rfl)⟩ | exact ⟨by (repeat first | exact Agree.refl | assumption | refine Agree.put rfl ?_ | refine Agree.put0 ?_ | refine Agree.sub rfl (by assumption) ?_), by first | rfl | omega | (simp (disch := first | exact Nat.ne_of_beq_eq_false rfl | assumption | exact dschM5 | fail) only [go_sem, ↓reduceIte, Int.natCast_zero]; first | done | rfl), rfl⟩ | exact (by (repeat first | exact Agree.refl | assumption | refine Agree.put rfl ?_ | refine Agree.put0 ?_ | refine Agree.sub rfl (by assumption) ?_))
    · rintro fr2 H hG2 ⟨r135, rfl⟩
      have y1 := hG2 1 rfl; (try simp (disch := first | exact Nat.ne_of_beq_eq_false rfl | assumption | exact dschM5 | fail) only [go_sem, ↓reduceIte, kY1] at y1)
      have y5 := hG2 5 rfl; (try simp (disch := first | exact Nat.ne_of_beq_eq_false rfl | assumption | exact dschM5 | fail) only [go_sem, ↓reduceIte, kY5] at y5)
      have y13 := hG2 13 rfl; (try simp (disch := first | exact Nat.ne_of_beq_eq_false rfl | assumption | exact dschM5 | fail) only [go_sem, ↓reduceIte, kY13] at y13)
      have y15 := hG2 15 rfl; (try simp (disch := first | exact Nat.ne_of_beq_eq_false rfl | assumption | exact dschM5 | fail) only [go_sem, ↓reduceIte, kY15] at y15)
      have y133 := hG2 133 rfl; (try simp (disch := first | exact Nat.ne_of_beq_eq_false rfl | assumption | exact dschM5 | fail) only [go_sem, ↓reduceIte] at y133)
      have y134 := hG2 134 rfl; (try simp (disch := first | exact Nat.ne_of_beq_eq_false rfl | assumption | exact dschM5 | fail) only [go_sem, ↓reduceIte] at y134)
      have hlt : (((m : Nat) : Int) < (m : Int)) = False := eq_false (by omega)
      have hsp := @Nat.succ_ne_zero; repeat' (first | simp (disch := first | exact Nat.ne_of_beq_eq_false rfl | assumption | exact dschM5 | fail) only [go_sem, ↓reduceIte, hsp, chn, pap, r135, y1, y5, y13, y15, y133, y134, hlt, hA] | refine WP_draw (by kernel_rfl) ?_ | refine cnd_intro (fun hsp => ?_) (fun hsp => ?_))
      exact fin_pl rfl rfl (by repeat' first | exact xG | refine Ext.app ?_)
end Go.AM
