/-
  Contracts of functions of petershamkit, of slices, and of small ones.
-/
import Derived.Test.YtppkmjfplhenmaaA5
import Derived.Test.YtppkmjfplhenmaaProg
import Derived.KernelRfl
set_option linter.unusedSimpArgs false
set_option linter.unusedVariables false
namespace Go.AM
open Go.Proofs.Try
attribute [local go_sem ↓] WP_skip WP_ret WP_label WP_exit WP_scope WP_seq WP_block WP_cond WP_region OPS_nil OPS_cons STEP_guard STEP_move STEP_assign STEP_pick STEP_load STEP_nilCheck STEP_binOp STEP_unOp STEP_convert STEP_makeFunc STEP_slice STEP_slice3 STEP_fieldAddr STEP_field STEP_indexAddr STEP_index STEP_lookup STEP_extract STEP_build STEP_store' STEP_alloc STEP_box STEP_buildSlice STEP_makeSlice STEP_makeMap STEP_mapUpdate STEP_call STEP_len STEP_append STEP_copy STEP_clear
attribute [local go_sem ↓] thenQ_normal thenQ_ret thenQ_exit inBlockQ_normal inBlockQ_ret inBlockQ_same inBlockQ_ne retQ_ret retQ_normal
attribute [local go_sem] bindv_some bindp_some cnd_true cnd_false condQ_bool guardQ_some extQ_false extQ_same extQ_app
attribute [local go_sem ↓] ev_tmp ev_int ev_bool ev_nilS ev_nilP ev_nilM ev_nilF ev_func put_none put_same put_ne
attribute [local go_sem] argFr_succ argFr_zero ne_eq Nat.reduceEqDiff not_false_eq_true decide_eq_true_eq resultsL_nil resultsL_tmp resultsL_cell consA_some oneA_one oneA_two
attribute [local go_sem] bin_lss bin_leq bin_gtr bin_geq bin_eql bin_neq bin_add bin_sub bin_mul bin_quo bin_rem bin_shl bin_shr un_not un_neg pick_true pick_false not_decide_eq
attribute [local go_sem] List.nil_append List.append_nil List.cons_append List.map_cons List.map_nil
attribute [local go_sem ↓] guard_lit dstAt_zero dstAt_succ guardV_some
attribute [local go_sem] Bool.false_eq_true eq_self gv_true gv_false gv_undef decide_true decide_false Bool.not_true Bool.not_false
attribute [local go_sem ↓] set_lt set_eq
attribute [local go_sem] load_eq ldB_cell ldB_agg box_agg cells_agg fieldAddr_eq splice_nil splice_cons get_lt get_eq Option.map_some List.length_append List.length_cons List.length_nil List.length_set Nat.zero_add Nat.add_zero Nat.reduceAdd List.set_cons_zero List.set_cons_succ List.getElem?_cons_zero List.getElem?_cons_succ List.drop_zero List.take_succ_cons List.take_zero
attribute [local go_sem ↓] STEP_min STEP_max
attribute [local go_sem] min_int max_int

def raw : FuncId → Bool := fun f => f == 118
theorem el22 : elS prog 22 = some (3, 1, [.int .i64 0]) := by kernel_rfl
theorem ar22 : arT prog 22 = none := by kernel_rfl
theorem ty3 : tyA prog 3 = some (false, 1) := by kernel_rfl

theorem run44 {base : Nat} {h : Heap} {v : AVal} {l : List Int} (hI : Ints h v l) : callL prog raw base (.fn 44 [] []) [v] h = some (.bool (decide (l.length > 60)), h) := by
  refine callL_run func44 rfl rfl ?_
  simp only [go_sem, Ints.len hI el22, results44]
  exact fin_bool (dec_dec (by omega))

theorem run95 {base : Nat} {h : Heap} {n lo hi : Int} : callL prog raw base (.fn 95 [] []) [.int .i64 n, .int .i64 lo, .int .i64 hi] h = some (.bool (decide (lo ≤ n ∧ n ≤ hi)), h) := by
  refine callL_run func95 rfl rfl ?_
  simp only [go_sem]
  refine ⟨fun h1 => ?_, fun h1 => ?_⟩
  · simp only [go_sem, results95, h1]
    exact fin_bool (by simp)
  · simp only [go_sem, results95, h1]
    exact fin_bool (by simp)

theorem run41 {base : Nat} {h : Heap} {a b : AVal} {l m : List Int} (ha : Ints h a l) (hb : Ints h b m) : callL prog raw base (.fn 41 [] []) [a, b] h = some (.bool (decide (l = m)), h) := by
  refine callL_run func41 rfl rfl ?_
  simp only [go_sem, Ints.len ha el22, Ints.len hb el22]
  refine ⟨fun h1 => ?_, fun h1 => ?_⟩
  · simp only [go_sem, results41]
    exact fin_bool (dec_false (fun e => h1 (by rw [e])))
  · have hlen : l.length = m.length := by omega
    simp only [go_sem, Ints.len ha el22]
    refine WP_loop (fun s => ∃ n : Nat, s.fr 13 = .int .i64 n ∧ s.fr 12 = .int .i64 l.length ∧ s.fr 0 = a ∧ s.fr 1 = b ∧ n ≤ l.length ∧ s.h = h ∧ l.take n = m.take n) (fun s => match s.fr 13 with | .int _ n => (l.length - n).toNat | _ => 0) ?_ ?_
    · refine ⟨0, ?_, ?_, ?_, ?_, by omega, ?_, ?_⟩ <;> simp only [go_sem, List.take_zero, Int.natCast_zero]
    · rintro ⟨fr, h'⟩ ⟨n, h13, h12, h0, h1', hn, hh, ht⟩
      simp only at h13 h12 h0 h1' hh
      subst hh
      have hbound : l.length < 2 ^ 60 := ha.1.1
      simp only [go_sem, h13, h12]
      refine ⟨fun c1 => ?_, fun c1 => ?_⟩
      · have hn' : n < l.length := by omega
        have hx : l[n]? = some l[n] := List.getElem?_eq_getElem hn'
        have hy : m[n]? = some (m[n]'(by omega)) := List.getElem?_eq_getElem (by omega)
        simp only [go_sem, h13]
        refine WP_draw (by kernel_rfl) ?_
        simp (disch := first | assumption | omega) only [go_sem, h0, h1', Ints.addr ha el22 ar22, Ints.addr hb el22 ar22, Int.toNat_natCast, Ints.load ha ty3 hx, Ints.load hb ty3 hy]
        refine ⟨fun c2 => ?_, fun c2 => ?_⟩
        · simp only [go_sem, results41]
          refine fin_bool (dec_false fun e => ?_)
          subst e; exact c2 rfl
        · simp (disch := first | assumption | omega) only [go_sem, h13, h12, h0, h1', wrap64]
          refine ⟨⟨n + 1, by simp, trivial, trivial, trivial, hn', trivial, ?_⟩, by omega⟩
          rw [List.take_add_one, List.take_add_one, ht, hx, hy]
          simp only [Option.toList]
          rw [Classical.not_not.1 c2]
      · simp only [go_sem, results41]
        refine fin_bool (dec_true ?_)
        have e1 : n = l.length := by omega
        rw [e1, List.take_length] at ht
        rw [ht, hlen, List.take_length]

theorem run90 {base : Nat} {h : Heap} {a b : AVal} {l m : List Int} (ha : Ints h a l) (hb : Ints h b m) : callL prog raw base (.fn 90 [] []) [a, b] h = some (.bool (decide (l = m)), h) := by
  refine callL_run func90 rfl rfl ?_
  simp only [go_sem, run41 ha hb, results90]
  exact fin_bool rfl

theorem run19 {base : Nat} {h : Heap} {v : AVal} {l : List Int} {most : Int} (hI : Ints h v l) : callL prog raw base (.fn 19 [] []) [v, .int .i64 most] h = some (.bool (decide (l.length > 60 ∨ ((l.length : Int) > most ∧ l.length ≤ 48))), h) := by
  refine callL_run func19 rfl rfl ?_
  simp only [go_sem, run44 hI]
  refine ⟨fun h1 => ?_, fun h1 => ?_⟩
  · simp only [go_sem, h1, Ints.len hI el22]
    refine ⟨fun h2 => ?_, fun h2 => ?_⟩
    · simp only [go_sem, h1, h2, Ints.len hI el22, results19]
      exact fin_bool (by simp; omega)
    · simp only [go_sem, h1, h2, results19]
      exact fin_bool (by simp)
  · have h1' := Classical.not_not.1 h1
    simp only [go_sem, h1', results19]
    exact fin_bool (by simp)

/-- What a copy of a row is. -/
theorem run82 {base : Nat} {h : Heap} {v : AVal} {l : List Int} (hI : Ints h v l) (hs : Small l) : callL prog raw base (.fn 82 [] []) [v] h = some (newV h.length l, h ++ newH l) := by
  refine callL_run func82 rfl rfl ?_
  have hlen : l.length < 1073741824 := hs.1
  simp only [go_sem, Ints.len hI el22]
  cases l with
  | nil =>
    simp only [List.length_nil, Int.natCast_zero, go_sem, make_emp el22, el22, Option.isNone_some, if_false, append_emp hI (by simp) el22, results82, newV_nil, newH_nil]
    exact compact_plain' rfl
  | cons x xs =>
    rw [make_row el22 (by simp) (by omega)]
    simp only [go_sem, el22, Option.isNone_some, if_false]
    rw [append_room (k := xs.length + 1) hI rfl el22 (Nat.le_refl _) (by rw [repCells_length]; simp)]
    simp only [go_sem, results82]
    exact fin_row (j := 0) (by simp) rfl (ints_plain _) rfl rfl

theorem ne86 {h : Heap} {v : AVal} {l : List Int} (hI : Ints h v l) : binA prog .eql 22 v (.slice .none 0 0) = some (.bool (nilB v)) := hI.eqnil underlying22

theorem run86 {base : Nat} {h : Heap} {v : AVal} {l : List Int} (hI : Ints h v l) (hs : Small l) : callL prog raw base (.fn 86 [] []) [v] h = some (cloneV v h.length l, h ++ cloneH v l) := by
  refine callL_run func86 rfl rfl ?_
  simp only [go_sem, ne86 hI]
  refine ⟨fun h1 => ?_, fun h1 => ?_⟩
  · simp only [go_sem, results86]
    rw [cloneV, cloneH, if_pos h1, if_pos h1, List.append_nil]
    exact compact_plain' rfl
  · have hlen : l.length < 1073741824 := hs.1
    simp only [go_sem, bs_emp el22, el22, Option.isNone_some, if_false]
    rw [append_emp hI (by omega) el22]
    simp only [go_sem, results86]
    rw [cloneV, cloneH, if_neg h1, if_neg h1]
    cases l with
    | nil => simp only [newV_nil, newH_nil, List.append_nil]; exact compact_plain' rfl
    | cons x xs =>
      simp only [newV_cons, newH_cons]
      exact fin_row (j := 0) (by simp) rfl (ints_plain _) rfl rfl
end Go.AM
/-
  Contracts: papers and chains, copied and compared.
-/
namespace Go.AM
open Go.Proofs.Try
attribute [local go_sem ↓] WP_skip WP_ret WP_label WP_exit WP_scope WP_seq WP_block WP_cond WP_region OPS_nil OPS_cons STEP_guard STEP_move STEP_assign STEP_pick STEP_load STEP_nilCheck STEP_binOp STEP_unOp STEP_convert STEP_makeFunc STEP_slice STEP_slice3 STEP_fieldAddr STEP_field STEP_indexAddr STEP_index STEP_lookup STEP_extract STEP_build STEP_store' STEP_alloc STEP_box STEP_buildSlice STEP_makeSlice STEP_makeMap STEP_mapUpdate STEP_call STEP_len STEP_append STEP_copy STEP_clear
attribute [local go_sem ↓] thenQ_normal thenQ_ret thenQ_exit inBlockQ_normal inBlockQ_ret inBlockQ_same inBlockQ_ne retQ_ret retQ_normal
attribute [local go_sem] bindv_some bindp_some cnd_true cnd_false condQ_bool guardQ_some extQ_false extQ_same extQ_app
attribute [local go_sem ↓] ev_tmp ev_int ev_bool ev_nilS ev_nilP ev_nilM ev_nilF ev_func put_none put_same put_ne
attribute [local go_sem] argFr_succ argFr_zero ne_eq Nat.reduceEqDiff not_false_eq_true decide_eq_true_eq resultsL_nil resultsL_tmp resultsL_cell consA_some oneA_one oneA_two
attribute [local go_sem] bin_lss bin_leq bin_gtr bin_geq bin_eql bin_neq bin_add bin_sub bin_mul bin_quo bin_rem bin_shl bin_shr un_not un_neg pick_true pick_false not_decide_eq
attribute [local go_sem] List.nil_append List.append_nil List.cons_append List.map_cons List.map_nil
attribute [local go_sem ↓] guard_lit dstAt_zero dstAt_succ guardV_some
attribute [local go_sem] Bool.false_eq_true eq_self gv_true gv_false gv_undef decide_true decide_false Bool.not_true Bool.not_false
attribute [local go_sem ↓] set_lt set_eq
attribute [local go_sem] load_eq ldB_cell ldB_agg box_agg cells_agg fieldAddr_eq splice_nil splice_cons get_lt get_eq Option.map_some List.length_append List.length_cons List.length_nil List.length_set Nat.zero_add Nat.add_zero Nat.reduceAdd List.set_cons_zero List.set_cons_succ List.getElem?_cons_zero List.getElem?_cons_succ List.drop_zero List.take_succ_cons List.take_zero
attribute [local go_sem ↓] STEP_min STEP_max
attribute [local go_sem] min_int max_int
theorem ty22 : tyA prog 22 = some (false, 1) := by kernel_rfl
theorem ty24 : tyA prog 24 = some (true, 2) := by kernel_rfl
theorem ty29 : tyA prog 29 = some (true, 2) := by kernel_rfl
theorem ty34 : tyA prog 34 = some (true, 4) := by kernel_rfl
theorem ty40 : tyA prog 40 = some (true, 4) := by kernel_rfl
theorem ty25 : tyA prog 25 = some (false, 1) := by kernel_rfl
theorem ty31 : tyA prog 31 = some (false, 1) := by kernel_rfl
theorem zc24 : zc prog 24 = some [.int .i64 0, .slice none 0 0] := by kernel_rfl
theorem pl24 : plcS prog 24 = some [(0, 1), (1, 1)] := by kernel_rfl
theorem zc29 : zc prog 29 = some [.int .i64 0, .slice none 0 0] := by kernel_rfl
theorem pl29 : plcS prog 29 = some [(0, 1), (1, 1)] := by kernel_rfl
theorem zc34 : zc prog 34 = some [.int .i64 0, .slice none 0 0, .int .i64 0, .int .i64 0] := by kernel_rfl
theorem pl34 : plcS prog 34 = some [(0, 1), (1, 1), (2, 1), (3, 1)] := by kernel_rfl
theorem zc40 : zc prog 40 = some [.int .i64 0, .slice none 0 0, .int .i64 0, .int .i64 0] := by kernel_rfl
theorem pl40 : plcS prog 40 = some [(0, 1), (1, 1), (2, 1), (3, 1)] := by kernel_rfl
section
variable {id ver o : Nat}
theorem fa240 : fieldAddrA prog 24 (.ptr (some ⟨id, ver, o⟩)) 0 = some (.ptr (some ⟨id, ver, o + 0⟩)) := fieldAddr_eq (q := false) (z := 1) (by kernel_rfl) (by decide)
theorem fa241 : fieldAddrA prog 24 (.ptr (some ⟨id, ver, o⟩)) 1 = some (.ptr (some ⟨id, ver, o + 1⟩)) := fieldAddr_eq (q := false) (z := 1) (by kernel_rfl) (by decide)
theorem fa290 : fieldAddrA prog 29 (.ptr (some ⟨id, ver, o⟩)) 0 = some (.ptr (some ⟨id, ver, o + 0⟩)) := fieldAddr_eq (q := false) (z := 1) (by kernel_rfl) (by decide)
theorem fa291 : fieldAddrA prog 29 (.ptr (some ⟨id, ver, o⟩)) 1 = some (.ptr (some ⟨id, ver, o + 1⟩)) := fieldAddr_eq (q := false) (z := 1) (by kernel_rfl) (by decide)
theorem fa340 : fieldAddrA prog 34 (.ptr (some ⟨id, ver, o⟩)) 0 = some (.ptr (some ⟨id, ver, o + 0⟩)) := fieldAddr_eq (q := false) (z := 1) (by kernel_rfl) (by decide)
theorem fa341 : fieldAddrA prog 34 (.ptr (some ⟨id, ver, o⟩)) 1 = some (.ptr (some ⟨id, ver, o + 1⟩)) := fieldAddr_eq (q := false) (z := 1) (by kernel_rfl) (by decide)
theorem fa342 : fieldAddrA prog 34 (.ptr (some ⟨id, ver, o⟩)) 2 = some (.ptr (some ⟨id, ver, o + 2⟩)) := fieldAddr_eq (q := false) (z := 1) (by kernel_rfl) (by decide)
theorem fa343 : fieldAddrA prog 34 (.ptr (some ⟨id, ver, o⟩)) 3 = some (.ptr (some ⟨id, ver, o + 3⟩)) := fieldAddr_eq (q := false) (z := 1) (by kernel_rfl) (by decide)
theorem fa400 : fieldAddrA prog 40 (.ptr (some ⟨id, ver, o⟩)) 0 = some (.ptr (some ⟨id, ver, o + 0⟩)) := fieldAddr_eq (q := false) (z := 1) (by kernel_rfl) (by decide)
theorem fa401 : fieldAddrA prog 40 (.ptr (some ⟨id, ver, o⟩)) 1 = some (.ptr (some ⟨id, ver, o + 1⟩)) := fieldAddr_eq (q := false) (z := 1) (by kernel_rfl) (by decide)
theorem fa402 : fieldAddrA prog 40 (.ptr (some ⟨id, ver, o⟩)) 2 = some (.ptr (some ⟨id, ver, o + 2⟩)) := fieldAddr_eq (q := false) (z := 1) (by kernel_rfl) (by decide)
theorem fa403 : fieldAddrA prog 40 (.ptr (some ⟨id, ver, o⟩)) 3 = some (.ptr (some ⟨id, ver, o + 3⟩)) := fieldAddr_eq (q := false) (z := 1) (by kernel_rfl) (by decide)
end
attribute [local go_sem] el22 ty3 ty22 ty24 ty29 ty34 ty40 ty25 ty31 zc24 zc29 zc34 zc40 fa240 fa241 fa290 fa291 fa340 fa341 fa342 fa343 fa400 fa401 fa402 fa403 Option.isNone_some if_false

/-- A paper. -/
abbrev pap (w : Int) (v : AVal) : AVal := .agg [.int .i64 w, v]

theorem run21 {base : Nat} {h : Heap} {v : AVal} {l : List Int} {w : Int} (hI : Ints h v l) (hs : Small l) : callL prog raw base (.fn 21 [] []) [pap w v] h = some (pap w (newV h.length l), h ++ newH l) := by
  refine callL_run func21 rfl rfl ?_
  simp (disch := first | exact qC | fail) only [go_sem, pap]
  refine WP_draw (by kernel_rfl) ?_
  simp (disch := first | exact qC | fail) only [go_sem]
  rw [run82 hI.app.app hs]
  simp (disch := first | exact qC | fail) only [go_sem, build2 zc24 pl24 One.int newV_one, stP_agg2 ty24, stQ_two One.int newV_one, results21]
  rw [List.append_assoc, List.append_assoc]
  exact fin_agg (a := [.int .i64 w]) (b := []) (pre := [_, _]) rfl rfl rfl rfl rfl rfl

theorem run22 {base : Nat} {h : Heap} {v : AVal} {l : List Int} {w : Int} (hI : Ints h v l) (hs : Small l) : callL prog raw base (.fn 22 [] []) [pap w v] h = some (pap w (newV h.length l), h ++ newH l) := by
  refine callL_run func22 rfl rfl ?_
  simp (disch := first | exact qC | fail) only [go_sem, pap]
  refine WP_draw (by kernel_rfl) ?_
  simp (disch := first | exact qC | fail) only [go_sem]
  rw [run82 hI.app.app hs]
  simp (disch := first | exact qC | fail) only [go_sem, build2 zc29 pl29 One.int newV_one, stP_agg2 ty29, stQ_two One.int newV_one, results22]
  rw [List.append_assoc, List.append_assoc]
  exact fin_agg (a := [.int .i64 w]) (b := []) (pre := [_, _]) rfl rfl rfl rfl rfl rfl

theorem run30 {base : Nat} {h : Heap} {v v' : AVal} {l l' : List Int} {w w' : Int} (hI : Ints h v l) (hI' : Ints h v' l') : callL prog raw base (.fn 30 [] []) [pap w v, pap w' v'] h = some (.bool (decide (w = w' ∧ l = l')), h) := by
  refine callL_run func30 rfl rfl ?_
  simp (disch := first | exact qC | fail) only [go_sem, pap]
  refine ⟨fun h1 => ?_, fun h1 => ?_⟩
  · simp (disch := first | exact qC | fail) only [go_sem, h1]
    rw [run90 hI.app.app hI'.app.app]
    simp (disch := first | exact qC | fail) only [go_sem, h1, results30]
    rw [List.append_assoc]
    exact fin_bool' (by simp)
  · simp (disch := first | exact qC | fail) only [go_sem, h1, results30]
    rw [List.append_assoc]
    exact fin_bool' (by simp)

/-- A chain. -/
abbrev chn (w : Int) (v : AVal) (k s : Int) : AVal := .agg [.int .i64 w, v, .int .i64 k, .int .i64 s]

theorem run79 {base : Nat} {h : Heap} {v : AVal} {l : List Int} {w : Int} (hI : Ints h v l) : callL prog raw base (.fn 79 [] []) [.int .i64 w, v] h = some (pap w v, h) := by
  refine callL_run func79 rfl rfl ?_
  simp (disch := first | exact qC | fail) only [go_sem, build2 zc24 pl24 One.int hI.one, stP_agg2 ty24, stQ_two One.int hI.one, results79]
  exact fin_old (a := [.int .i64 w]) (b := []) hI rfl rfl rfl

theorem run80 {base : Nat} {h : Heap} {v : AVal} {l : List Int} {w k s : Int} (hI : Ints h v l) : callL prog raw base (.fn 80 [] []) [.int .i64 w, .int .i64 k, .int .i64 s, v] h = some (chn w v k s, h) := by
  refine callL_run func80 rfl rfl ?_
  simp (disch := first | exact qC | fail) only [go_sem, build4 zc34 pl34 One.int hI.one One.int One.int, stP_agg4 ty34, stQ_four One.int hI.one One.int One.int, results80]
  exact fin_old (a := [.int .i64 w]) (b := [.int .i64 k, .int .i64 s]) hI rfl rfl rfl

theorem run40 {base : Nat} {h : Heap} {v : AVal} {l : List Int} {w k s : Int} (hI : Ints h v l) (hs : Small l) : callL prog raw base (.fn 40 [] []) [chn w v k s] h = some (chn w (newV h.length l) k s, h ++ newH l) := by
  refine callL_run func40 rfl rfl ?_
  simp (disch := first | exact qC | fail) only [go_sem, chn]
  rw [run82 hI.app.app hs]
  simp (disch := first | exact qC | fail) only [go_sem, stP_one ty22 newV_one, stQ_one newV_one, stP_agg4 ty34, stQ_four One.int newV_one One.int One.int, results40]
  rw [List.append_assoc, List.append_assoc]
  exact fin_agg (a := [.int .i64 w]) (b := [.int .i64 k, .int .i64 s]) (pre := [_, _]) rfl rfl rfl rfl rfl rfl

theorem run50 {base : Nat} {h : Heap} {v : AVal} {l : List Int} {w k s : Int} (hI : Ints h v l) (hs : Small l) : callL prog raw base (.fn 50 [] []) [chn w v k s] h = some (chn w (newV h.length l) k s, h ++ newH l) := by
  refine callL_run func50 rfl rfl ?_
  simp (disch := first | exact qC | fail) only [go_sem, chn]
  refine WP_draw (by kernel_rfl) ?_
  simp (disch := first | exact qC | fail) only [go_sem]
  rw [run82 hI.app.app hs]
  simp (disch := first | exact qC | fail) only [go_sem, build4 zc40 pl40 One.int newV_one One.int One.int, stP_agg4 ty40, stQ_four One.int newV_one One.int One.int, results50]
  rw [List.append_assoc, List.append_assoc]
  exact fin_agg (a := [.int .i64 w]) (b := [.int .i64 k, .int .i64 s]) (pre := [_, _]) rfl rfl rfl rfl rfl rfl

theorem run29 {base : Nat} {h : Heap} {v v' : AVal} {l l' : List Int} {w w' k k' s s' : Int} (hI : Ints h v l) (hI' : Ints h v' l') :
    callL prog raw base (.fn 29 [] []) [chn w v k s, chn w' v' k' s'] h = some (.bool (decide (w = w' ∧ k = k' ∧ s = s' ∧ l = l')), h) := by
  refine callL_run func29 rfl rfl ?_
  simp (disch := first | exact qC | fail) only [go_sem, chn]
  refine ⟨fun h1 => ?_, fun h1 => ?_⟩
  · simp (disch := first | exact qC | fail) only [go_sem, h1]
    refine ⟨fun h2 => ?_, fun h2 => ?_⟩
    · simp (disch := first | exact qC | fail) only [go_sem, h1, h2]
      refine ⟨fun h3 => ?_, fun h3 => ?_⟩
      · simp (disch := first | exact qC | fail) only [go_sem, h1, h2, h3]
        rw [run90 hI.app.app hI'.app.app]
        simp (disch := first | exact qC | fail) only [go_sem, h1, h2, h3, results29]
        rw [List.append_assoc]
        exact fin_bool' (by simp)
      · simp (disch := first | exact qC | fail) only [go_sem, h1, h2, h3, results29]
        rw [List.append_assoc]
        exact fin_bool' (by simp)
    · simp (disch := first | exact qC | fail) only [go_sem, h1, h2, results29]
      rw [List.append_assoc]
      exact fin_bool' (by simp)
  · simp (disch := first | exact qC | fail) only [go_sem, h1, results29]
    rw [List.append_assoc]
    exact fin_bool' (by simp)
end Go.AM
/-
  Contracts: rows searched, papers checked.
-/
namespace Go.AM
open Go.Proofs.Try
attribute [local go_sem ↓] WP_skip WP_ret WP_label WP_exit WP_scope WP_seq WP_block WP_cond WP_region OPS_nil OPS_cons STEP_guard STEP_move STEP_assign STEP_pick STEP_load STEP_nilCheck STEP_binOp STEP_unOp STEP_convert STEP_makeFunc STEP_slice STEP_slice3 STEP_fieldAddr STEP_field STEP_indexAddr STEP_index STEP_lookup STEP_extract STEP_build STEP_store' STEP_alloc STEP_box STEP_buildSlice STEP_makeSlice STEP_makeMap STEP_mapUpdate STEP_call STEP_len STEP_append STEP_copy STEP_clear
attribute [local go_sem ↓] thenQ_normal thenQ_ret thenQ_exit inBlockQ_normal inBlockQ_ret inBlockQ_same inBlockQ_ne retQ_ret retQ_normal
attribute [local go_sem] bindv_some bindp_some cnd_true cnd_false condQ_bool guardQ_some extQ_false extQ_same extQ_app
attribute [local go_sem ↓] ev_tmp ev_int ev_bool ev_nilS ev_nilP ev_nilM ev_nilF ev_func put_none put_same put_ne
attribute [local go_sem] argFr_succ argFr_zero ne_eq Nat.reduceEqDiff not_false_eq_true decide_eq_true_eq resultsL_nil resultsL_tmp resultsL_cell consA_some oneA_one oneA_two
attribute [local go_sem] bin_lss bin_leq bin_gtr bin_geq bin_eql bin_neq bin_add bin_sub bin_mul bin_quo bin_rem bin_shl bin_shr un_not un_neg pick_true pick_false not_decide_eq
attribute [local go_sem] List.nil_append List.append_nil List.cons_append List.map_cons List.map_nil
attribute [local go_sem ↓] guard_lit dstAt_zero dstAt_succ guardV_some
attribute [local go_sem] Bool.false_eq_true eq_self gv_true gv_false gv_undef decide_true decide_false Bool.not_true Bool.not_false
attribute [local go_sem ↓] set_lt set_eq
attribute [local go_sem] load_eq ldB_cell ldB_agg box_agg cells_agg fieldAddr_eq splice_nil splice_cons get_lt get_eq Option.map_some List.length_append List.length_cons List.length_nil List.length_set Nat.zero_add Nat.add_zero Nat.reduceAdd List.set_cons_zero List.set_cons_succ List.getElem?_cons_zero List.getElem?_cons_succ List.drop_zero List.take_succ_cons List.take_zero
attribute [local go_sem ↓] STEP_min STEP_max
attribute [local go_sem] min_int max_int
attribute [local go_sem] el22 ty3 ty22 ty24 ty29 ty34 ty40 ty25 ty31 zc24 zc29 zc34 zc40 fa240 fa241 fa290 fa291 fa340 fa341 fa342 fa343 fa400 fa401 fa402 fa403 Option.isNone_some if_false

theorem ty107 : tyA prog 107 = some (false, 1) := by kernel_rfl
/-- Where the first one lies. -/
def idx (p : Int → Bool) : List Int → Int
  | [] => -1
  | x :: xs => if p x = true then 0 else (if idx p xs < 0 then -1 else idx p xs + 1)

theorem idx_ge (p : Int → Bool) : ∀ l, -1 ≤ idx p l
  | [] => by simp [idx]
  | x :: xs => by
    have := idx_ge p xs
    simp only [idx]; split
    · omega
    · split <;> omega

theorem idx_any (p : Int → Bool) : ∀ l, (0 ≤ idx p l) ↔ l.any p = true
  | [] => by simp [idx]
  | x :: xs => by
    have := idx_any p xs
    have h0 := idx_ge p xs
    simp only [idx, List.any_cons]
    by_cases h : p x = true
    · simp [h]
    · simp only [h, if_false, Bool.false_or, Bool.false_eq_true]
      rw [← this]; split <;> omega

theorem idx_drop (p : Int → Bool) : ∀ (l : List Int) (n : Nat), (∀ x ∈ l.take n, p x = false) → n ≤ l.length → idx p l = (if idx p (l.drop n) < 0 then -1 else idx p (l.drop n) + n)
  | l, 0, _, _ => by
    have := idx_ge p l
    simp only [List.drop_zero]; split <;> omega
  | [], n + 1, _, hn => by simp at hn
  | x :: xs, n + 1, hp, hn => by
    have h1 : p x = false := hp x (by simp)
    have ih := idx_drop p xs n (fun y hy => hp y (by simp [hy])) (by simpa using hn)
    simp only [idx, h1, Bool.false_eq_true, if_false, List.drop_succ_cons]
    have h0 := idx_ge p (xs.drop n)
    rw [ih]
    split <;> rename_i h2 <;> split <;> rename_i h3 <;> (try split at h2) <;> (try split at h3) <;> (try omega) <;> (try split) <;> (try omega)

theorem run119 {base : Nat} {h : Heap} {v g : AVal} {l : List Int} (p : Int → Bool) (hI : Ints h v l) (hg : ∀ base x, x ∈ l → callL prog raw base g [.int .i64 x] h = some (.bool (p x), h)) :
    callL prog raw base (.fn 119 [] []) [v, g] h = some (.int .i64 (idx p l), h) := by
  refine callL_run func119 rfl rfl ?_
  have hbound : l.length < 2 ^ 60 := hI.1.1
  simp (disch := first | exact qC | fail) only [go_sem, Ints.len hI el22]
  refine WP_loop (fun s => ∃ n : Nat, s.fr 8 = .int .i64 n ∧ s.fr 7 = .int .i64 l.length ∧ s.fr 0 = v ∧ s.fr 1 = g ∧ n ≤ l.length ∧ s.h = h ∧ ∀ x ∈ l.take n, p x = false) (fun s => match s.fr 8 with | .int _ n => (l.length - n).toNat | _ => 0) ?_ ?_
  · refine ⟨0, ?_, ?_, ?_, ?_, by omega, ?_, ?_⟩ <;> simp only [go_sem, Int.natCast_zero] <;> simp
  · rintro ⟨fr, h'⟩ ⟨n, h8, h7, h0, h1, hn, hh, hp⟩
    simp only at h8 h7 h0 h1 hh
    subst hh
    simp only [go_sem, h8, h7]
    refine ⟨fun c1 => ?_, fun c1 => ?_⟩
    · have hn' : n < l.length := by omega
      have hx : l[n]? = some l[n] := List.getElem?_eq_getElem hn'
      simp (disch := first | exact qC | fail) only [go_sem, h8, h0, h1, Ints.addr hI el22 ar22, Int.toNat_natCast, Ints.load hI ty3 hx, hg _ l[n] (List.getElem_mem hn')]
      refine ⟨fun c2 => ?_, fun c2 => ?_⟩
      · simp only [go_sem, results119]
        refine fin_int ?_
        rw [idx_drop p l n hp hn, List.drop_eq_getElem_cons hn']
        simp only [idx, c2, if_true]
        simp
      · simp (disch := first | exact qC | fail) only [go_sem, h8, h7, h0, h1, wrap64]
        refine ⟨⟨n + 1, by simp, trivial, trivial, trivial, hn', trivial, fun x hx' => ?_⟩, by omega⟩
        rw [List.take_add_one, hx] at hx'
        simp only [Option.toList, List.mem_append, List.mem_singleton] at hx'
        rcases hx' with hx' | rfl
        · exact hp x hx'
        · simpa using c2
    · simp only [go_sem, results119]
      refine fin_int ?_
      have e1 : n = l.length := by omega
      rw [idx_drop p l n hp hn, e1]
      simp [idx]

theorem run116 {base : Nat} {h : Heap} {v g : AVal} {l : List Int} (p : Int → Bool) (hI : Ints h v l) (hg : ∀ base x, x ∈ l → callL prog raw base g [.int .i64 x] h = some (.bool (p x), h)) :
    callL prog raw base (.fn 116 [] []) [v, g] h = some (.bool (l.any p), h) := by
  refine callL_run func116 rfl rfl ?_
  simp (disch := first | exact qC | fail) only [go_sem, run119 p hI hg, results116]
  refine fin_bool ?_
  have := idx_any p l
  by_cases h1 : l.any p = true
  · rw [h1]; simp; exact this.2 h1
  · have : ¬ 0 ≤ idx p l := fun h => h1 (this.1 h)
    simp only [Bool.not_eq_true] at h1
    rw [h1]; simp; omega

/-- A function value that answers of integers, in whatever heap beyond this one. -/
def Pred (h : Heap) (l : List Int) (g : AVal) (p : Int → Bool) : Prop := ∀ (base : Nat) (T : Heap) (x : Int), x ∈ l → callL prog raw base g [.int .i64 x] (h ++ T) = some (.bool (p x), h ++ T)

theorem run117 {base id : Nat} {h : Heap} {g : AVal} {x : Int} {b : Bool} (hid : h[id]? = some ⟨.cells [g] 107 false false, 0⟩) (hg : ∀ base, callL prog raw base g [.int .i64 x] h = some (.bool b, h)) :
    callL prog raw base (.fn 117 [] [.ptr (some ⟨id, 0, 0⟩)]) [.int .i64 x] h = some (.bool (!b), h) := by
  refine callL_run func117 rfl rfl ?_
  simp (disch := first | exact qC | fail) only [go_sem, hid, ty107, hg, results117]
  exact fin_bool rfl

theorem run107 {base : Nat} {h : Heap} {v g : AVal} {l : List Int} {p : Int → Bool} (hI : Ints h v l) (hg : Pred h l g p) (h1 : One g) : callL prog raw base (.fn 107 [] []) [v, g] h = some (.bool (l.all p), h) := by
  refine callL_run func107 rfl rfl ?_
  simp (disch := first | exact qC | fail) only [go_sem, box_one h1]
  rw [run116 (fun x => !p x) hI.app (fun base x hx => run117 (get_eq rfl) (fun base => hg base _ x hx))]
  simp (disch := first | exact qC | fail) only [go_sem, results107]
  refine fin_bool' ?_
  rw [List.any_eq_not_all_not]
  simp

theorem pow_le {w : Int} (h0 : 0 ≤ w) (h1 : w ≤ 60) : (1 : Int) ≤ 2 ^ w.toNat ∧ (2 : Int) ^ w.toNat ≤ 1152921504606846976 := by
  have h2 : w.toNat ≤ 60 := by omega
  have h3 : (2 : Nat) ^ w.toNat ≤ 2 ^ 60 := Nat.pow_le_pow_right (by decide) h2
  have h4 : 1 ≤ (2 : Nat) ^ w.toNat := Nat.one_le_two_pow
  have h5 : ((2 : Int) ^ w.toNat) = ((2 ^ w.toNat : Nat) : Int) := by simp
  rw [h5]
  have h6 : (2 : Nat) ^ 60 = 1152921504606846976 := by decide
  omega

theorem shl_one {w : Int} (h0 : 0 ≤ w) (h1 : w ≤ 60) : binA prog .shl 3 (.int .i64 1) (.int .i64 w) = some (.int .i64 (2 ^ w.toNat)) := by
  rw [bin_shl h0]
  have hm : min w.toNat IntKind.i64.bits = w.toNat := by
    have : IntKind.i64.bits = 64 := rfl
    omega
  have := pow_le h0 h1
  rw [hm, Int.one_mul, wrap64 (by omega) (by omega)]

theorem run108 {base id : Nat} {h : Heap} {v : AVal} {w x : Int} (hid : h[id]? = some ⟨.cells [.int .i64 w, v] 24 false false, 0⟩) (h0 : 0 ≤ w) (h1 : w ≤ 60) :
    callL prog raw base (.fn 108 [] [.ptr (some ⟨id, 0, 0⟩)]) [.int .i64 x] h = some (.bool (decide (0 ≤ x ∧ x ≤ 2 ^ w.toNat - 1)), h) := by
  refine callL_run func108 rfl rfl ?_
  have hp := pow_le h0 h1
  simp (disch := first | exact qC | fail) only [go_sem, hid, shl_one h0 h1, wrap64, run95, results108]
  exact fin_bool rfl

/-- What card.Check says of a paper. -/
def chk (w : Int) (l : List Int) : Int :=
  if ¬ (1 ≤ w ∧ w ≤ 8) then 3 else if ¬ (1 ≤ (l.length : Int) ∧ (l.length : Int) ≤ 48) then 2 else if ¬ (l.all fun x => decide (0 ≤ x ∧ x ≤ 2 ^ w.toNat - 1)) = true then 8 else 0

theorem run67 {base : Nat} {h : Heap} {v : AVal} {l : List Int} {w : Int} (hI : Ints h v l) : callL prog raw base (.fn 67 [] []) [pap w v] h = some (.int .i64 (chk w l), h) := by
  refine callL_run func67 rfl rfl ?_
  simp (disch := first | exact qC | fail) only [go_sem, pap, run95]
  refine ⟨fun h1 => ?_, fun h1 => ?_⟩
  · simp (disch := first | exact qC | fail) only [go_sem, results67]
    refine fin_int' ?_
    simp only [chk, h1, not_false_eq_true, if_true]
  · simp (disch := first | exact qC | fail) only [go_sem, run95, Ints.len hI.app el22]
    have h1' := Classical.not_not.1 h1
    refine ⟨fun h2 => ?_, fun h2 => ?_⟩
    · simp (disch := first | exact qC | fail) only [go_sem, results67]
      refine fin_int' ?_
      simp only [chk, h1, h2, not_false_eq_true, if_true, if_false]
    · simp (disch := first | exact qC | fail) only [go_sem]
      have hp : Pred (h ++ [(⟨.cells [.int .i64 w, v] 24 false false, 0⟩ : ABlk)]) l (.fn 108 [] [.ptr (some ⟨h.length, 0, 0⟩)]) (fun x => decide (0 ≤ x ∧ x ≤ 2 ^ w.toNat - 1)) := fun base T x hx =>
        run108 (by rw [get_lt (by simp), get_eq rfl]) (by omega) (by omega)
      rw [run107 hI.app hp ⟨rfl, rfl, rfl⟩]
      have h2' := Classical.not_not.1 h2
      simp (disch := first | exact qC | fail) only [go_sem]
      refine ⟨fun h3 => ?_, fun h3 => ?_⟩
      · simp (disch := first | exact qC | fail) only [go_sem, results67]
        refine fin_int' ?_
        rw [chk, if_neg h1, if_neg h2, if_pos (by simpa using h3)]
      · simp (disch := first | exact qC | fail) only [go_sem, results67]
        refine fin_int' ?_
        rw [chk, if_neg h1, if_neg h2, if_neg (by simpa using h3)]
end Go.AM
/-
  Contracts: chains checked.
-/
namespace Go.AM
open Go.Proofs.Try
attribute [local go_sem ↓] WP_skip WP_ret WP_label WP_exit WP_scope WP_seq WP_block WP_cond WP_region OPS_nil OPS_cons STEP_guard STEP_move STEP_assign STEP_pick STEP_load STEP_nilCheck STEP_binOp STEP_unOp STEP_convert STEP_makeFunc STEP_slice STEP_slice3 STEP_fieldAddr STEP_field STEP_indexAddr STEP_index STEP_lookup STEP_extract STEP_build STEP_store' STEP_alloc STEP_box STEP_buildSlice STEP_makeSlice STEP_makeMap STEP_mapUpdate STEP_call STEP_len STEP_append STEP_copy STEP_clear
attribute [local go_sem ↓] thenQ_normal thenQ_ret thenQ_exit inBlockQ_normal inBlockQ_ret inBlockQ_same inBlockQ_ne retQ_ret retQ_normal
attribute [local go_sem] bindv_some bindp_some cnd_true cnd_false condQ_bool guardQ_some extQ_false extQ_same extQ_app
attribute [local go_sem ↓] ev_tmp ev_int ev_bool ev_nilS ev_nilP ev_nilM ev_nilF ev_func put_none put_same put_ne
attribute [local go_sem] argFr_succ argFr_zero ne_eq Nat.reduceEqDiff not_false_eq_true decide_eq_true_eq resultsL_nil resultsL_tmp resultsL_cell consA_some oneA_one oneA_two
attribute [local go_sem] bin_lss bin_leq bin_gtr bin_geq bin_eql bin_neq bin_add bin_sub bin_mul bin_quo bin_rem bin_shl bin_shr un_not un_neg pick_true pick_false not_decide_eq
attribute [local go_sem] List.nil_append List.append_nil List.cons_append List.map_cons List.map_nil
attribute [local go_sem ↓] guard_lit dstAt_zero dstAt_succ guardV_some
attribute [local go_sem] Bool.false_eq_true eq_self gv_true gv_false gv_undef decide_true decide_false Bool.not_true Bool.not_false
attribute [local go_sem ↓] set_lt set_eq
attribute [local go_sem] load_eq ldB_cell ldB_agg box_agg cells_agg fieldAddr_eq splice_nil splice_cons get_lt get_eq Option.map_some List.length_append List.length_cons List.length_nil List.length_set Nat.zero_add Nat.add_zero Nat.reduceAdd List.set_cons_zero List.set_cons_succ List.getElem?_cons_zero List.getElem?_cons_succ List.drop_zero List.take_succ_cons List.take_zero
attribute [local go_sem ↓] STEP_min STEP_max
attribute [local go_sem] min_int max_int
attribute [local go_sem] el22 ty3 ty22 ty24 ty29 ty34 ty40 ty25 ty31 zc24 zc29 zc34 zc40 fa240 fa241 fa290 fa291 fa340 fa341 fa342 fa343 fa400 fa401 fa402 fa403 Option.isNone_some if_false
theorem ty124 : tyA prog 124 = some (true, 3) := by kernel_rfl
theorem zc124 : zc prog 124 = some [.int .i64 0, .int .i64 0, .int .i64 0] := by kernel_rfl
theorem pl124 : plcS prog 124 = some [(0, 1), (1, 1), (2, 1)] := by kernel_rfl
section
variable {id ver o : Nat}
theorem fa1240 : fieldAddrA prog 124 (.ptr (some ⟨id, ver, o⟩)) 0 = some (.ptr (some ⟨id, ver, o + 0⟩)) := fieldAddr_eq (q := false) (z := 1) (by kernel_rfl) (by decide)
theorem fa1241 : fieldAddrA prog 124 (.ptr (some ⟨id, ver, o⟩)) 1 = some (.ptr (some ⟨id, ver, o + 1⟩)) := fieldAddr_eq (q := false) (z := 1) (by kernel_rfl) (by decide)
theorem fa1242 : fieldAddrA prog 124 (.ptr (some ⟨id, ver, o⟩)) 2 = some (.ptr (some ⟨id, ver, o + 2⟩)) := fieldAddr_eq (q := false) (z := 1) (by kernel_rfl) (by decide)
end
attribute [local go_sem] ty124 zc124 fa1240 fa1241 fa1242

/-- A plan. -/
abbrev pln (k n s : Int) : AVal := .agg [.int .i64 k, .int .i64 n, .int .i64 s]

theorem run87 {base : Nat} {h : Heap} {k : Int} : callL prog raw base (.fn 87 [] []) [.int .i64 k] h = some (.bool (decide (0 ≤ k ∧ k ≤ 2)), h) := by
  refine callL_run func87 rfl rfl ?_
  simp (disch := first | exact qC | fail) only [go_sem, run95, results87]
  exact fin_bool rfl

theorem run96 {base : Nat} {h : Heap} {v : AVal} {l : List Int} {w k s : Int} (hI : Ints h v l) : callL prog raw base (.fn 96 [] []) [chn w v k s] h = some (pln k l.length s, h) := by
  refine callL_run func96 rfl rfl ?_
  simp (disch := first | exact qC | fail) only [go_sem, chn, Ints.len hI.app.app el22, build3 zc124 pl124 One.int One.int One.int, stP_agg3 ty124, stQ_three One.int One.int One.int, results96]
  rw [List.append_assoc]
  exact compact_plain rfl

/-- May a plan's step stand at this width? -/
def stepOk (k s w : Int) : Bool := if k = 2 then decide (1 ≤ s ∧ s ≤ w - 1) else decide (s = 0)

theorem run88 {base : Nat} {h : Heap} {k n s w : Int} (h0 : -1000 ≤ w) (h1 : w ≤ 1000) : callL prog raw base (.fn 88 [] []) [pln k n s, .int .i64 w] h = some (.bool (stepOk k s w), h) := by
  refine callL_run func88 rfl rfl ?_
  simp (disch := first | exact qC | fail) only [go_sem, pln]
  refine ⟨fun h2 => ?_, fun h2 => ?_⟩
  · simp (disch := first | exact qC | fail) only [go_sem, wrap64, run95, results88]
    refine fin_bool' ?_
    rw [stepOk, if_pos h2]
  · simp (disch := first | exact qC | fail) only [go_sem, results88]
    refine fin_bool' ?_
    rw [stepOk, if_neg h2]

theorem run111 {base id : Nat} {h : Heap} {v : AVal} {w x k s : Int} (hid : h[id]? = some ⟨.cells [.int .i64 w, v, .int .i64 k, .int .i64 s] 34 false false, 0⟩) (h0 : 0 ≤ w) (h1 : w ≤ 60) :
    callL prog raw base (.fn 111 [] [.ptr (some ⟨id, 0, 0⟩)]) [.int .i64 x] h = some (.bool (decide (0 ≤ x ∧ x ≤ 2 ^ w.toNat - 1)), h) := by
  refine callL_run func111 rfl rfl ?_
  have hp := pow_le h0 h1
  simp (disch := first | exact qC | fail) only [go_sem, hid, shl_one h0 h1, wrap64, run95, results111]
  exact fin_bool rfl

/-- What card.CheckChain says of a chain. -/
def chkC (w : Int) (l : List Int) (k s : Int) : Int :=
  if ¬ (1 ≤ w ∧ w ≤ 8) then 3 else if ¬ (1 ≤ (l.length : Int) ∧ (l.length : Int) ≤ 48) then 2 else if ¬ (0 ≤ k ∧ k ≤ 2) then 1 else
  if ¬ (l.all fun x => decide (0 ≤ x ∧ x ≤ 2 ^ w.toNat - 1)) = true ∨ ¬ stepOk k s w = true then 8 else 0

theorem run75 {base : Nat} {h : Heap} {v : AVal} {l : List Int} {w k s : Int} (hI : Ints h v l) : callL prog raw base (.fn 75 [] []) [chn w v k s] h = some (.int .i64 (chkC w l k s), h) := by
  refine callL_run func75 rfl rfl ?_
  simp (disch := first | exact qC | fail) only [go_sem, chn, run95]
  refine ⟨fun h1 => ?_, fun h1 => ?_⟩
  · simp (disch := first | exact qC | fail) only [go_sem, results75]
    refine fin_int' ?_
    rw [chkC, if_pos h1]
  · have h1' := Classical.not_not.1 h1
    simp (disch := first | exact qC | fail) only [go_sem, run95, Ints.len hI.app el22]
    refine ⟨fun h2 => ?_, fun h2 => ?_⟩
    · simp (disch := first | exact qC | fail) only [go_sem, results75]
      refine fin_int' ?_
      rw [chkC, if_neg h1, if_pos h2]
    · simp (disch := first | exact qC | fail) only [go_sem, run87]
      refine ⟨fun h3 => ?_, fun h3 => ?_⟩
      · simp (disch := first | exact qC | fail) only [go_sem, results75]
        refine fin_int' ?_
        rw [chkC, if_neg h1, if_neg h2, if_pos h3]
      · simp (disch := first | exact qC | fail) only [go_sem]
        refine WP_draw (by kernel_rfl) ?_
        have hp : Pred (h ++ [(⟨.cells [.int .i64 w, v, .int .i64 k, .int .i64 s] 34 false false, 0⟩ : ABlk)]) l (.fn 111 [] [.ptr (some ⟨h.length, 0, 0⟩)]) (fun x => decide (0 ≤ x ∧ x ≤ 2 ^ w.toNat - 1)) := fun base T x hx =>
          run111 (by rw [get_lt (by simp), get_eq rfl]) (by omega) (by omega)
        simp (disch := first | exact qC | fail) only [go_sem]
        rw [run107 hI.app hp ⟨rfl, rfl, rfl⟩]
        cases hA : (l.all fun x => decide (0 ≤ x ∧ x ≤ 2 ^ w.toNat - 1)) with
        | false =>
          simp (disch := first | exact qC | fail) only [go_sem, results75]
          refine fin_int' ?_
          rw [chkC, if_neg h1, if_neg h2, if_neg h3, if_pos (.inl (by rw [hA]; simp))]
        | true =>
          simp (disch := first | exact qC | fail) only [go_sem]
          rw [run96 hI.app]
          simp (disch := first | exact qC | fail) only [go_sem]
          rw [run88 (by omega) (by omega)]
          simp (disch := first | exact qC | fail) only [go_sem]
          cases hS : stepOk k s w with
          | false =>
            simp (disch := first | exact qC | fail) only [go_sem, results75]
            refine fin_int' ?_
            rw [chkC, if_neg h1, if_neg h2, if_neg h3, if_pos (.inr (by rw [hS]; simp))]
          | true =>
            simp (disch := first | exact qC | fail) only [go_sem, results75]
            refine fin_int' ?_
            rw [chkC, if_neg h1, if_neg h2, if_neg h3, if_neg (by rw [hA, hS]; simp)]
end Go.AM
/-
  Contracts: how a card is moved; closures that take a card.
-/
namespace Go.AM
open Go.Proofs.Try
attribute [local go_sem ↓] WP_skip WP_ret WP_label WP_exit WP_scope WP_seq WP_block WP_cond WP_region OPS_nil OPS_cons STEP_guard STEP_move STEP_assign STEP_pick STEP_load STEP_nilCheck STEP_binOp STEP_unOp STEP_convert STEP_makeFunc STEP_slice STEP_slice3 STEP_fieldAddr STEP_field STEP_indexAddr STEP_index STEP_lookup STEP_extract STEP_build STEP_store' STEP_alloc STEP_box STEP_buildSlice STEP_makeSlice STEP_makeMap STEP_mapUpdate STEP_call STEP_len STEP_append STEP_copy STEP_clear
attribute [local go_sem ↓] thenQ_normal thenQ_ret thenQ_exit inBlockQ_normal inBlockQ_ret inBlockQ_same inBlockQ_ne retQ_ret retQ_normal
attribute [local go_sem] bindv_some bindp_some cnd_true cnd_false condQ_bool guardQ_some extQ_false extQ_same extQ_app
attribute [local go_sem ↓] ev_tmp ev_int ev_bool ev_nilS ev_nilP ev_nilM ev_nilF ev_func put_none put_same put_ne
attribute [local go_sem] argFr_succ argFr_zero ne_eq Nat.reduceEqDiff not_false_eq_true decide_eq_true_eq resultsL_nil resultsL_tmp resultsL_cell consA_some oneA_one oneA_two
attribute [local go_sem] bin_lss bin_leq bin_gtr bin_geq bin_eql bin_neq bin_add bin_sub bin_mul bin_quo bin_rem bin_shl bin_shr un_not un_neg pick_true pick_false not_decide_eq
attribute [local go_sem] List.nil_append List.append_nil List.cons_append List.map_cons List.map_nil
attribute [local go_sem ↓] guard_lit dstAt_zero dstAt_succ guardV_some
attribute [local go_sem] Bool.false_eq_true eq_self gv_true gv_false gv_undef decide_true decide_false Bool.not_true Bool.not_false
attribute [local go_sem ↓] set_lt set_eq
attribute [local go_sem] load_eq ldB_cell ldB_agg box_agg cells_agg fieldAddr_eq splice_nil splice_cons get_lt get_eq Option.map_some List.length_append List.length_cons List.length_nil List.length_set Nat.zero_add Nat.add_zero Nat.reduceAdd List.set_cons_zero List.set_cons_succ List.getElem?_cons_zero List.getElem?_cons_succ List.drop_zero List.take_succ_cons List.take_zero
attribute [local go_sem ↓] STEP_min STEP_max
attribute [local go_sem] min_int max_int
attribute [local go_sem] el22 ty3 ty22 ty24 ty29 ty34 ty40 ty25 ty31 zc24 zc29 zc34 zc40 fa240 fa241 fa290 fa291 fa340 fa341 fa342 fa343 fa400 fa401 fa402 fa403 Option.isNone_some if_false

def orI (a b : Int) : Int := IntKind.i64.wrap ((BitVec.ofInt 64 a ||| BitVec.ofInt 64 b).toNat : Int)
def andI (a b : Int) : Int := IntKind.i64.wrap ((BitVec.ofInt 64 a &&& BitVec.ofInt 64 b).toNat : Int)
theorem bin_or {t : TypeId} {a b : Int} : binA prog .or t (.int .i64 a) (.int .i64 b) = some (.int .i64 (orI a b)) := rfl
theorem bin_and {t : TypeId} {a b : Int} : binA prog .and t (.int .i64 a) (.int .i64 b) = some (.int .i64 (andI a b)) := rfl
attribute [local go_sem] bin_or bin_and

/-- card.moved, as its text has it. -/
def mv (lift by' w : Int) : Int := andI (orI (lift * 2 ^ by'.toNat) (lift.fdiv (2 ^ (w - by').toNat))) (2 ^ w.toNat - 1)

theorem mul_pow_le {a w : Int} (h0 : 0 ≤ a) (h1 : a ≤ 1000000) (h2 : 0 ≤ w) (h3 : w ≤ 30) : 0 ≤ a * 2 ^ w.toNat ∧ a * 2 ^ w.toNat ≤ 1073741824000000 := by
  have h4 : (2 : Nat) ^ w.toNat ≤ 2 ^ 30 := Nat.pow_le_pow_right (by decide) (by omega)
  have h5 : ((2 : Int) ^ w.toNat) = ((2 ^ w.toNat : Nat) : Int) := by simp
  have h6 : (2 : Nat) ^ 30 = 1073741824 := by decide
  rw [h5]
  have h7 : ((2 ^ w.toNat : Nat) : Int) ≤ 1073741824 := by omega
  have h8 : (0 : Int) ≤ ((2 ^ w.toNat : Nat) : Int) := Int.natCast_nonneg _
  have := Int.mul_le_mul h1 h7 h8 (by omega)
  exact ⟨Int.mul_nonneg h0 h8, by omega⟩

theorem shl_small {t : TypeId} {a w : Int} (h0 : 0 ≤ a) (h1 : a ≤ 1000000) (h2 : 0 ≤ w) (h3 : w ≤ 30) : binA prog .shl t (.int .i64 a) (.int .i64 w) = some (.int .i64 (a * 2 ^ w.toNat)) := by
  rw [bin_shl h2]
  have hm : min w.toNat IntKind.i64.bits = w.toNat := by
    have : IntKind.i64.bits = 64 := rfl
    omega
  have := mul_pow_le h0 h1 h2 h3
  rw [hm, wrap64 (by omega) (by omega)]
theorem shr_small {t : TypeId} {a w : Int} (h2 : 0 ≤ w) (h3 : w ≤ 60) : binA prog .shr t (.int .i64 a) (.int .i64 w) = some (.int .i64 (a.fdiv (2 ^ w.toNat))) := by
  rw [bin_shr h2]
  have hm : min w.toNat IntKind.i64.bits = w.toNat := by
    have : IntKind.i64.bits = 64 := rfl
    omega
  rw [hm]

theorem run100 {base : Nat} {h : Heap} {lift by' w : Int} (h0 : 0 ≤ lift) (h1 : lift ≤ 1000000) (h2 : 0 ≤ by') (h3 : by' ≤ w) (h4 : w ≤ 30) :
    callL prog raw base (.fn 100 [] []) [.int .i64 lift, .int .i64 by', .int .i64 w] h = some (.int .i64 (mv lift by' w), h) := by
  refine callL_run func100 rfl rfl ?_
  simp (disch := first | exact qC | fail) only [go_sem]
  refine WP_draw (by kernel_rfl) ?_
  have hp := pow_le (w := w) (by omega) (by omega)
  have e1 : binA prog .shl 3 (.int .i64 lift) (.int .i64 by') = some (.int .i64 (lift * 2 ^ by'.toNat)) := shl_small h0 h1 h2 (by omega)
  have e2 : binA prog .shl 3 (.int .i64 1) (.int .i64 w) = some (.int .i64 (2 ^ w.toNat)) := shl_one (by omega) (by omega)
  have e3 : binA prog .shr 3 (.int .i64 lift) (.int .i64 (w - by')) = some (.int .i64 (lift.fdiv (2 ^ (w - by').toNat))) := shr_small (by omega) (by omega)
  simp (disch := first | exact qC | fail) only [go_sem, e1, e2, e3, wrap64, results100]
  exact fin_int rfl

/-- A card moved stays within its width, and which. -/
def mvOk : Bool := (List.range 8).all fun w' => (List.range (2 ^ (w' + 1))).all fun a => (List.range (w' + 1)).all fun b =>
  mv a b (w' + 1 : Nat) == ((a * 2 ^ b % 2 ^ (w' + 1) + a / 2 ^ (w' + 1 - b) : Nat) : Int)
theorem mvOk_true : mvOk = true := by kernel_rfl
end Go.AM
/-
  Contracts: which card a plan takes, and how far it moves it.
-/
namespace Go.AM
open Go.Proofs.Try
attribute [local go_sem ↓] WP_skip WP_ret WP_label WP_exit WP_scope WP_seq WP_block WP_cond WP_region OPS_nil OPS_cons STEP_guard STEP_move STEP_assign STEP_pick STEP_load STEP_nilCheck STEP_binOp STEP_unOp STEP_convert STEP_makeFunc STEP_slice STEP_slice3 STEP_fieldAddr STEP_field STEP_indexAddr STEP_index STEP_lookup STEP_extract STEP_build STEP_store' STEP_alloc STEP_box STEP_buildSlice STEP_makeSlice STEP_makeMap STEP_mapUpdate STEP_call STEP_len STEP_append STEP_copy STEP_clear
attribute [local go_sem ↓] thenQ_normal thenQ_ret thenQ_exit inBlockQ_normal inBlockQ_ret inBlockQ_same inBlockQ_ne retQ_ret retQ_normal
attribute [local go_sem] bindv_some bindp_some cnd_true cnd_false condQ_bool guardQ_some extQ_false extQ_same extQ_app
attribute [local go_sem ↓] ev_tmp ev_int ev_bool ev_nilS ev_nilP ev_nilM ev_nilF ev_func put_none put_same put_ne
attribute [local go_sem] argFr_succ argFr_zero ne_eq Nat.reduceEqDiff not_false_eq_true decide_eq_true_eq resultsL_nil resultsL_tmp resultsL_cell consA_some oneA_one oneA_two
attribute [local go_sem] bin_lss bin_leq bin_gtr bin_geq bin_eql bin_neq bin_add bin_sub bin_mul bin_quo bin_rem bin_shl bin_shr un_not un_neg pick_true pick_false not_decide_eq
attribute [local go_sem] List.nil_append List.append_nil List.cons_append List.map_cons List.map_nil
attribute [local go_sem ↓] guard_lit dstAt_zero dstAt_succ guardV_some
attribute [local go_sem] Bool.false_eq_true eq_self gv_true gv_false gv_undef decide_true decide_false Bool.not_true Bool.not_false
attribute [local go_sem ↓] set_lt set_eq
attribute [local go_sem] load_eq ldB_cell ldB_agg box_agg cells_agg fieldAddr_eq splice_nil splice_cons get_lt get_eq Option.map_some List.length_append List.length_cons List.length_nil List.length_set Nat.zero_add Nat.add_zero Nat.reduceAdd List.set_cons_zero List.set_cons_succ List.getElem?_cons_zero List.getElem?_cons_succ List.drop_zero List.take_succ_cons List.take_zero
attribute [local go_sem ↓] STEP_min STEP_max
attribute [local go_sem] min_int max_int
attribute [local go_sem] el22 ty3 ty22 ty24 ty29 ty34 ty40 ty25 ty31 zc24 zc29 zc34 zc40 fa240 fa241 fa290 fa291 fa340 fa341 fa342 fa343 fa400 fa401 fa402 fa403 Option.isNone_some if_false
attribute [local go_sem] ty124 zc124 fa1240 fa1241 fa1242

def intB (n : Int) : ABlk := ⟨.cells [.int .i64 n] 3 false false, 0⟩

theorem run115 {base id : Nat} {h : Heap} {n t : Int} (hid : h[id]? = some (intB n)) (hn : n ≠ 0) : callL prog raw base (.fn 115 [] [.ptr (some ⟨id, 0, 0⟩)]) [.int .i64 t] h = some (.tuple [.int .i64 (t.tmod n), .int .i64 0], h) := by
  refine callL_run func115 rfl rfl ?_
  simp (disch := first | exact qC | fail) only [go_sem, hid, intB, results115]
  exact compact_plain' rfl

theorem run114 {base id : Nat} {h : Heap} {n t : Int} (hid : h[id]? = some (intB n)) (h0 : 2 ≤ n) (h1 : n ≤ 1000) :
    callL prog raw base (.fn 114 [] [.ptr (some ⟨id, 0, 0⟩)]) [.int .i64 t] h = some (.tuple [.int .i64 (min (t.tmod (2 * n - 2)) (2 * n - 2 - t.tmod (2 * n - 2))), .int .i64 0], h) := by
  refine callL_run func114 rfl rfl ?_
  have hm : -(2 * n - 2) < t.tmod (2 * n - 2) ∧ t.tmod (2 * n - 2) < 2 * n - 2 := by
    refine ⟨?_, Int.tmod_lt_of_pos _ (by omega)⟩
    have := Int.tmod_lt_of_pos (-t) (b := 2 * n - 2) (by omega)
    rw [Int.neg_tmod] at this
    omega
  have hne : 2 * n - 2 ≠ 0 := by omega
  simp (disch := first | exact qC | fail) only [go_sem, hid, intB, wrap64, results114]
  exact compact_plain' rfl

def plnB (k n s : Int) : ABlk := ⟨.cells [.int .i64 k, .int .i64 n, .int .i64 s] 124 false false, 0⟩
theorem ty137 : tyA prog 137 = some (true, 1) := by kernel_rfl
theorem zc137 : zc prog 137 = some [.nilFn] := by kernel_rfl
theorem pl137 : plcS prog 137 = some [(0, 1)] := by kernel_rfl
theorem zc3 : zc prog 3 = some [.int .i64 0] := by kernel_rfl
attribute [local go_sem] ty137 zc137 zc3

def plainB (b : ABlk) : Bool := match b.body with | .cells c _ _ _ => plainL c | _ => false
/-- Which of the three takers. -/
def takV (k n : Int) (b : Nat) : AVal :=
  if k = 2 then .agg [.fn 113 [] [.ptr (some ⟨b, 0, 0⟩), .ptr (some ⟨b + 1, 0, 0⟩), .ptr (some ⟨b + 2, 0, 0⟩)]]
  else if k = 1 ∧ n > 1 then .agg [.fn 114 [] [.ptr (some ⟨b, 0, 0⟩)]] else .agg [.fn 115 [] [.ptr (some ⟨b, 0, 0⟩)]]
def takH (k n s w : Int) : Heap := if k = 2 then [intB n, plnB k n s, intB w] else [intB n]

theorem run97 {base : Nat} {h : Heap} {k n s w : Int} : callL prog raw base (.fn 97 [] []) [pln k n s, .int .i64 w] h = some (takV k n h.length, h ++ takH k n s w) := by
  refine callL_run func97 rfl rfl ?_
  have of : ∀ {f : FuncId} {c : List AVal}, One (.fn f [] c) := fun {f c} => ⟨rfl, rfl, rfl⟩
  simp (disch := first | exact qC | fail) only [go_sem, pln, box_one One.int, stP_one ty3 One.int, stQ_one One.int]
  have n0 : ∀ {js : List Nat} {u : Nat}, newId h.length (js.map fun j => h.length + j) h.length u = (h.length + js.idxOf 0, 0) := fun {js u} => newId_map (j := 0)
  have n1 : ∀ {js : List Nat} {u : Nat}, newId h.length (js.map fun j => h.length + j) (h.length + 1) u = (h.length + js.idxOf 1, 0) := fun {js u} => newId_map (j := 1)
  have n3 : ∀ {js : List Nat} {u : Nat}, newId h.length (js.map fun j => h.length + j) (h.length + 1 + 1 + 1) u = (h.length + js.idxOf 3, 0) := fun {js u} => newId_map (j := 3)
  have one : ∀ {f : FuncId} {b0 b1 b2 : ABlk}, compact h.length (.agg [.fn f [] [.ptr (some ⟨h.length + 1 + 1 + 1, 0, 0⟩)]]) (h ++ [b0] ++ [b1] ++ [b2] ++ [⟨.cells [.int .i64 n] 3 false false, 0⟩]) = some (.agg [.fn f [] [.ptr (some ⟨h.length, 0, 0⟩)]], h ++ [intB n]) := by
    intro f b0 b1 b2
    rw [List.append_assoc, List.append_assoc, List.append_assoc]
    rw [compact_many (js := [3]) (by simp [AVal.refs, refsL]) (by decide) (by decide) (by
      intro j hj
      simp only [List.mem_singleton] at hj
      subst hj
      exact ⟨_, _, _, _, rfl, rfl⟩)]
    simp only [AVal.ren, renL, n3]
    rfl
  refine ⟨fun h1 => ?_, fun h1 => ?_⟩
  · simp (disch := first | exact qC | fail) only [go_sem, build1 zc137 pl137 of, stP_agg1 ty137, stQ_one of, results97]
    rw [takV, takH, if_pos h1, if_pos h1, List.append_assoc, List.append_assoc, List.append_assoc]
    rw [compact_many (js := [3, 0, 1]) (by simp [AVal.refs, refsL]) (by decide) (by decide) (by
      intro j hj
      simp only [List.mem_cons, List.not_mem_nil, or_false] at hj
      rcases hj with rfl | rfl | rfl
      · exact ⟨_, _, _, _, rfl, rfl⟩
      · exact ⟨_, _, _, _, rfl, rfl⟩
      · exact ⟨_, _, _, _, rfl, rfl⟩)]
    simp only [AVal.ren, renL, n0, n1, n3]
    rfl
  · simp (disch := first | exact qC | fail) only [go_sem]
    refine ⟨fun h2 => ?_, fun h2 => ?_⟩
    · simp (disch := first | exact qC | fail) only [go_sem, h2]
      refine ⟨fun h3 => ?_, fun h3 => ?_⟩
      · simp (disch := first | exact qC | fail) only [go_sem, h3, build1 zc137 pl137 of, stP_agg1 ty137, stQ_one of, results97]
        rw [takV, takH, if_neg h1, if_pos ⟨h2, h3⟩, if_neg h1]
        exact one
      · simp (disch := first | exact qC | fail) only [go_sem, h3, build1 zc137 pl137 of, stP_agg1 ty137, stQ_one of, results97]
        rw [takV, takH, if_neg h1, if_neg (fun e => h3 e.2), if_neg h1]
        exact one
    · simp (disch := first | exact qC | fail) only [go_sem, h2, build1 zc137 pl137 of, stP_agg1 ty137, stQ_one of, results97]
      rw [takV, takH, if_neg h1, if_neg (fun e => h2 e.1), if_neg h1]
      exact one
end Go.AM
/-
  Contracts: the lift of a chain.
-/
namespace Go.AM
open Go.Proofs.Try
attribute [local go_sem ↓] WP_skip WP_ret WP_label WP_exit WP_scope WP_seq WP_block WP_cond WP_region OPS_nil OPS_cons STEP_guard STEP_move STEP_assign STEP_pick STEP_load STEP_nilCheck STEP_binOp STEP_unOp STEP_convert STEP_makeFunc STEP_slice STEP_slice3 STEP_fieldAddr STEP_field STEP_indexAddr STEP_index STEP_lookup STEP_extract STEP_build STEP_store' STEP_alloc STEP_box STEP_buildSlice STEP_makeSlice STEP_makeMap STEP_mapUpdate STEP_call STEP_len STEP_append STEP_copy STEP_clear
attribute [local go_sem ↓] thenQ_normal thenQ_ret thenQ_exit inBlockQ_normal inBlockQ_ret inBlockQ_same inBlockQ_ne retQ_ret retQ_normal
attribute [local go_sem] bindv_some bindp_some cnd_true cnd_false condQ_bool guardQ_some extQ_false extQ_same extQ_app
attribute [local go_sem ↓] ev_tmp ev_int ev_bool ev_nilS ev_nilP ev_nilM ev_nilF ev_func put_none put_same put_ne
attribute [local go_sem] argFr_succ argFr_zero ne_eq Nat.reduceEqDiff not_false_eq_true decide_eq_true_eq resultsL_nil resultsL_tmp resultsL_cell consA_some oneA_one oneA_two
attribute [local go_sem] bin_lss bin_leq bin_gtr bin_geq bin_eql bin_neq bin_add bin_sub bin_mul bin_quo bin_rem bin_shl bin_shr un_not un_neg pick_true pick_false not_decide_eq
attribute [local go_sem] List.nil_append List.append_nil List.cons_append List.map_cons List.map_nil
attribute [local go_sem ↓] guard_lit dstAt_zero dstAt_succ guardV_some
attribute [local go_sem] Bool.false_eq_true eq_self gv_true gv_false gv_undef decide_true decide_false Bool.not_true Bool.not_false
attribute [local go_sem ↓] set_lt set_eq
attribute [local go_sem] load_eq ldB_cell ldB_agg box_agg cells_agg fieldAddr_eq splice_nil splice_cons get_lt get_eq Option.map_some List.length_append List.length_cons List.length_nil List.length_set Nat.zero_add Nat.add_zero Nat.reduceAdd List.set_cons_zero List.set_cons_succ List.getElem?_cons_zero List.getElem?_cons_succ List.drop_zero List.take_succ_cons List.take_zero
attribute [local go_sem ↓] STEP_min STEP_max
attribute [local go_sem] min_int max_int
attribute [local go_sem] el22 ty3 ty22 ty24 ty29 ty34 ty40 ty25 ty31 zc24 zc29 zc34 zc40 fa240 fa241 fa290 fa291 fa340 fa341 fa342 fa343 fa400 fa401 fa402 fa403 Option.isNone_some if_false
attribute [local go_sem] ty124 zc124 fa1240 fa1241 fa1242 ty137 zc137 zc3 bin_or bin_and

theorem run113 {base i j m : Nat} {h : Heap} {n k s w t : Int} (hi : h[i]? = some (intB n)) (hj : h[j]? = some (plnB k n s)) (hm : h[m]? = some (intB w)) (hn : n ≠ 0) (hw : w ≠ 0) :
    callL prog raw base (.fn 113 [] [.ptr (some ⟨i, 0, 0⟩), .ptr (some ⟨j, 0, 0⟩), .ptr (some ⟨m, 0, 0⟩)]) [.int .i64 t] h =
      some (.tuple [.int .i64 (t.tmod n), .int .i64 ((IntKind.i64.wrap (IntKind.i64.wrap (t.tdiv n) * s)).tmod w)], h) := by
  refine callL_run func113 rfl rfl ?_
  simp (disch := first | exact qC | fail) only [go_sem]
  refine WP_draw (by kernel_rfl) ?_
  simp (disch := first | exact qC | fail) only [go_sem, hi, hj, hm, intB, plnB, results113]
  exact compact_plain' rfl

/-- How many turns a chain's round takes. -/
def rnd (k n w : Int) : Int := if k = 1 then max 1 (2 * n - 2) else if k = 2 then n * w else n

theorem run92 {base : Nat} {h : Heap} {v : AVal} {l : List Int} {w k s : Int} (hI : Ints h v l) (hn : l.length ≤ 1000) (h0 : 0 ≤ w) (h1 : w ≤ 1000) :
    callL prog raw base (.fn 92 [] []) [chn w v k s] h = some (.int .i64 (rnd k l.length w), h) := by
  refine callL_run func92 rfl rfl ?_
  simp (disch := first | exact qC | fail) only [go_sem, chn, Ints.len hI.app el22]
  refine ⟨fun h2 => ?_, fun h2 => ?_⟩
  · simp (disch := first | exact qC | fail) only [go_sem, h2, wrap64, results92]
    refine fin_int' ?_
    simp only [rnd, if_true]
  · simp (disch := first | exact qC | fail) only [go_sem]
    refine ⟨fun h3 => ?_, fun h3 => ?_⟩
    · have hm : 0 ≤ (l.length : Int) * w ∧ (l.length : Int) * w ≤ 1000 * 1000 :=
        ⟨Int.mul_nonneg (by omega) h0, Int.mul_le_mul (by omega) h1 h0 (by omega)⟩
      simp (disch := first | exact qC | fail) only [go_sem, wrap64, results92]
      refine fin_int' ?_
      rw [rnd, if_neg h2, if_pos h3]
    · simp (disch := first | exact qC | fail) only [go_sem, results92]
      refine fin_int' ?_
      rw [rnd, if_neg h2, if_neg h3]
end Go.AM
/-
  Contracts of the ref's small functions.
-/
namespace Go.AM
open Go.Proofs.Try
attribute [local go_sem ↓] WP_skip WP_ret WP_label WP_exit WP_scope WP_seq WP_block WP_cond WP_region OPS_nil OPS_cons STEP_guard STEP_move STEP_assign STEP_pick STEP_load STEP_nilCheck STEP_binOp STEP_unOp STEP_convert STEP_makeFunc STEP_slice STEP_slice3 STEP_fieldAddr STEP_field STEP_indexAddr STEP_index STEP_lookup STEP_extract STEP_build STEP_store' STEP_alloc STEP_box STEP_buildSlice STEP_makeSlice STEP_makeMap STEP_mapUpdate STEP_call STEP_len STEP_append STEP_copy STEP_clear
attribute [local go_sem ↓] thenQ_normal thenQ_ret thenQ_exit inBlockQ_normal inBlockQ_ret inBlockQ_same inBlockQ_ne retQ_ret retQ_normal
attribute [local go_sem] bindv_some bindp_some cnd_true cnd_false condQ_bool guardQ_some extQ_false extQ_same extQ_app
attribute [local go_sem ↓] ev_tmp ev_int ev_bool ev_nilS ev_nilP ev_nilM ev_nilF ev_func put_none put_same put_ne
attribute [local go_sem] argFr_succ argFr_zero ne_eq Nat.reduceEqDiff not_false_eq_true decide_eq_true_eq resultsL_nil resultsL_tmp resultsL_cell consA_some oneA_one oneA_two
attribute [local go_sem] bin_lss bin_leq bin_gtr bin_geq bin_eql bin_neq bin_add bin_sub bin_mul bin_quo bin_rem bin_shl bin_shr un_not un_neg pick_true pick_false not_decide_eq
attribute [local go_sem] List.nil_append List.append_nil List.cons_append List.map_cons List.map_nil
attribute [local go_sem ↓] guard_lit dstAt_zero dstAt_succ guardV_some
attribute [local go_sem] Bool.false_eq_true eq_self gv_true gv_false gv_undef decide_true decide_false Bool.not_true Bool.not_false
attribute [local go_sem ↓] set_lt set_eq
attribute [local go_sem] load_eq ldB_cell ldB_agg box_agg cells_agg fieldAddr_eq splice_nil splice_cons get_lt get_eq Option.map_some List.length_append List.length_cons List.length_nil List.length_set Nat.zero_add Nat.add_zero Nat.reduceAdd List.set_cons_zero List.set_cons_succ List.getElem?_cons_zero List.getElem?_cons_succ List.drop_zero List.take_succ_cons List.take_zero
attribute [local go_sem ↓] STEP_min STEP_max
attribute [local go_sem] min_int max_int
attribute [local go_sem] el22 ty3 ty22 ty24 ty29 ty34 ty40 ty25 ty31 zc24 zc29 zc34 zc40 fa240 fa241 fa290 fa291 fa340 fa341 fa342 fa343 fa400 fa401 fa402 fa403 Option.isNone_some if_false

theorem run83 {base : Nat} {h : Heap} {n lo hi : Int} : callL prog raw base (.fn 83 [] []) [.int .i64 n, .int .i64 lo, .int .i64 hi] h = some (.bool (decide (n < lo ∨ n > hi)), h) := by
  refine callL_run func83 rfl rfl ?_
  simp (disch := first | exact qC | fail) only [go_sem]
  refine ⟨fun h1 => ?_, fun h1 => ?_⟩
  · simp (disch := first | exact qC | fail) only [go_sem, h1, results83]
    exact fin_bool (by simp)
  · have h1' := Classical.not_not.1 h1
    simp (disch := first | exact qC | fail) only [go_sem, h1', results83]
    exact fin_bool (by simp)

theorem run84 {base : Nat} {h : Heap} {w : Int} (h0 : 0 ≤ w) (h1 : w ≤ 60) : callL prog raw base (.fn 84 [] []) [.int .i64 w] h = some (.int .i64 (2 ^ w.toNat), h) := by
  refine callL_run func84 rfl rfl ?_
  simp (disch := first | exact qC | fail) only [go_sem]
  refine WP_loop (fun s => ∃ n : Nat, s.fr 4 = .int .i64 n ∧ s.fr 0 = .int .i64 w ∧ s.fr 3 = .int .i64 (2 ^ n) ∧ (n : Int) ≤ w ∧ s.h = h) (fun s => match s.fr 4 with | .int _ n => (w - n).toNat | _ => 0) ?_ ?_
  · refine ⟨0, ?_, ?_, ?_, by omega, ?_⟩ <;> simp only [go_sem, Int.natCast_zero] <;> simp
  · rintro ⟨fr, h'⟩ ⟨n, h4, h0', h3, hn, hh⟩
    simp only at h4 h0' h3 hh
    subst hh
    simp (disch := first | exact qC | fail) only [go_sem, h4, h0']
    refine ⟨fun c1 => ?_, fun c1 => ?_⟩
    · have hp := pow_le (w := (n : Int)) (by omega) (by omega)
      simp only [Int.toNat_natCast] at hp
      simp (disch := first | exact qC | fail) only [go_sem, h4, h0', h3, wrap64]
      refine ⟨⟨n + 1, by simp, trivial, ?_, by omega, trivial⟩, by omega⟩
      rw [Int.pow_succ, Int.mul_comm]
    · have e1 : w.toNat = n := by omega
      simp (disch := first | exact qC | fail) only [go_sem, h3, results84]
      refine fin_int ?_
      rw [e1]

theorem run23 {base : Nat} {h : Heap} {v : AVal} {l : List Int} {w : Int} (hI : Ints h v l) : callL prog raw base (.fn 23 [] []) [pap w v] h = some (.int .i64 (chk w l), h) := by
  refine callL_run func23 rfl rfl ?_
  simp (disch := first | exact qC | fail) only [go_sem, pap, run83]
  refine ⟨fun h1 => ?_, fun h1 => ?_⟩
  · simp (disch := first | exact qC | fail) only [go_sem, results23]
    refine fin_int' ?_
    rw [chk, if_pos (by omega)]
  · simp (disch := first | exact qC | fail) only [go_sem, run83, Ints.len hI.app el22]
    refine ⟨fun h2 => ?_, fun h2 => ?_⟩
    · simp (disch := first | exact qC | fail) only [go_sem, results23]
      refine fin_int' ?_
      rw [chk, if_neg (by omega), if_pos (by omega)]
    · simp (disch := first | exact qC | fail) only [go_sem]
      have hlen : l.length ≤ 48 := by omega
      refine WP_loop (fun s => ∃ n : Nat, s.fr 3 = .int .i64 n ∧ s.fr 1 = .ptr (some ⟨h.length, 0, 0⟩) ∧ n ≤ l.length ∧ s.h = h ++ [⟨.cells [.int .i64 w, v] 29 false false, 0⟩] ∧ ∀ x ∈ l.take n, 0 ≤ x ∧ x ≤ 2 ^ w.toNat - 1) (fun s => match s.fr 3 with | .int _ n => (l.length - n).toNat | _ => 0) ?_ ?_
      · refine ⟨0, ?_, ?_, by omega, ?_, ?_⟩ <;> simp only [go_sem, Int.natCast_zero] <;> simp
      · rintro ⟨fr, h'⟩ ⟨n, h3, h1', hn, hh, hp⟩
        simp only at h3 h1' hh
        subst hh
        simp (disch := first | exact qC | fail) only [go_sem, h3, h1', Ints.len hI.app el22]
        refine ⟨fun c1 => ?_, fun c1 => ?_⟩
        · have hn' : n < l.length := by omega
          have hx : l[n]? = some l[n] := List.getElem?_eq_getElem hn'
          have hpw := pow_le (w := w) (by omega) (by omega)
          simp (disch := first | exact qC | fail) only [go_sem]
          refine WP_draw (by kernel_rfl) ?_
          simp (disch := first | exact qC | fail) only [go_sem, h3, h1', Ints.addr hI el22 ar22, Int.toNat_natCast]
          rw [Ints.load hI.app ty3 hx]
          simp (disch := first | exact qC | fail) only [go_sem, h1']
          rw [run84 (by omega) (by omega)]
          simp (disch := first | exact qC | fail) only [go_sem, wrap64, run83]
          refine ⟨fun c2 => ?_, fun c2 => ?_⟩
          · simp (disch := first | exact qC | fail) only [go_sem, results23]
            refine fin_int' ?_
            rw [chk, if_neg (by omega), if_neg (by omega), if_pos]
            intro hall
            have := List.all_eq_true.1 hall l[n] (List.getElem_mem hn')
            simp at this
            omega
          · simp (disch := first | exact qC | fail) only [go_sem, h3, h1', wrap64]
            refine ⟨⟨n + 1, by simp, trivial, hn', trivial, fun x hx' => ?_⟩, by omega⟩
            rw [List.take_add_one, hx] at hx'
            simp only [Option.toList, List.mem_append, List.mem_singleton] at hx'
            rcases hx' with hx' | rfl
            · exact hp x hx'
            · omega
        · simp (disch := first | exact qC | fail) only [go_sem, results23]
          refine fin_int' ?_
          have e1 : n = l.length := by omega
          rw [e1, List.take_length] at hp
          rw [chk, if_neg (by omega), if_neg (by omega), if_neg]
          intro hna
          exact hna (List.all_eq_true.2 fun x hx => by simpa using hp x hx)
end Go.AM
