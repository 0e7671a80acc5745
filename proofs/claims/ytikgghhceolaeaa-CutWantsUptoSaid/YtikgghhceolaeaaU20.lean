/-
  The statement of CutWants, out of what the abstract machine says of it (by wip/tools/bridge7.py).
-/
import Derived.Test.YtikgghhceolaeaaU19
import Derived.Test.YtikgghhceolaeaaU11
set_option linter.unusedSimpArgs false
set_option linter.unusedVariables false
namespace Go.AM
open Go.Proofs.Try Go.RowKit Go.ChangeShapes Go.WideShapes Go.ChangeAt
open Go.Proofs.Ytikgghhceolaeaa
set_option maxRecDepth 100000
theorem cutWants_contract (hrun : ∀ {base : Nat} {h : Heap} {v0 v1 : AVal}, RibN 1048576 h v0 → IntV h v1 →  callL prog raw base (.fn 9 [] []) [v0, v1] h = some (.bool true, h))
    (H : Type) (enc : TypeId × Value → H) (W : World) (base : Nat) (args : Array Value) (ds gs : List (DataW H)) (before : List MemPlace)
    (hval : ∀ (j : Nat) t v, f9.params[j]? = some t → args[j]? = some v → Value.okWide prog W .any base t v)
    (hW : DataW.Whole enc prog f9.params.toList Rows.cutWantsSpec.vars false W args.toList ds gs before) (hk : Rows.uptoSmall H (ds ++ gs) = true) :
    Calls prog 9 args W fun e W' => ∃ v, e = .returned v ∧ Rows.cutWantsSpec.post enc prog f9 false true false false W args v W' := by
  have hW' := hW
  obtain ⟨p, q, hA0, hV, rfl, hfz, hnd⟩ := hW
  obtain ⟨rfl, rfl⟩ := trodVars_none hV
  have hA : DataW.TrodAll enc prog W 0 (fun _ => true) true f9.params.toList args.toList ds p := hA0
  rw [params9] at hA hval
  obtain ⟨V0, vs0, d0, ds0, p0, q0, hargs, rfl, rfl, h0, r0⟩ := trodAll_cons hA
  obtain ⟨V1, vs1, d1, ds1, p1, q1, rfl, rfl, rfl, h1, r1⟩ := trodAll_cons r0
  obtain ⟨rfl, rfl, rfl⟩ := trodAll_nil r1
  obtain rfl : args = #[V0, V1] := by cases args; simp_all
  have hb := of_decide_eq_true hk
  simp only [List.append_nil, Rows.uptoBulkAll] at hb
  obtain ⟨S, vs, hok, hvr, hq⟩ := (opens_cons (Q := RibN 1048576) (opens_rib (N := 1048576) (by decide) (hval 0 25 V0 rfl rfl) h0 (by omega)) (opens_cons (Q := IntV) (opens_intV (hval 1 3 V1 rfl rfl) h1) opens_nil (fun _ _ _ h _ => h)) (fun _ _ _ h e => h.ext e)) [] (fun x hx => by cases hx)
  obtain ⟨v0, _, rfl, k0, v1, _, rfl, k1, rfl⟩ := hq
  have hc := calls_trueG (f := 9) (A := #[V0, V1]) hok hvr (hrun (k0) (k1))
  have hrd : ∀ t ∈ f9.params.toList, prog.readableRec t = true ∧ t < prog.types.size := by
    rw [params9]
    intro t ht
    simp only [List.mem_cons, List.not_mem_nil, or_false] at ht
    rcases ht with rfl | rfl
    all_goals exact ⟨by kernel_rfl, of_decide_eq_true (by kernel_rfl)⟩
  refine hc.mono fun e W' ⟨he, hbel⟩ => ?_
  subst he
  exact ⟨_, rfl, post_below laid hrd hbel rfl hW' (fun _ _ _ => trodAll_cons_mk (shut_bool underlying4 _) trodAll_mk0) rfl rfl (ok_one (by kernel_rfl) rfl (okWide_bool_mk underlying4 _))⟩
theorem cutWants_lifted (hrun : ∀ {base : Nat} {h : Heap} {v0 v1 : AVal}, RibN 1048576 h v0 → IntV h v1 →  callL prog raw base (.fn 9 [] []) [v0, v1] h = some (.bool true, h))
    (os : Os) (started : os.Started) (H : Type) (enc : TypeId × Value → H) (F : Stop.Interp) :
    ReturnsInHanded {} Go.Proofs.Try.checked os 9 .any ((Rows.OpenSpec.upto Rows.cutWantsSpec).pre6 enc prog f9 Rows.cutWantsUptoRow.domain false) (((Rows.OpenSpec.upto Rows.cutWantsSpec).at F).post enc prog f9 false true false false) := by
  refine returnsInHanded_of_cond (C := Go.Proofs.Try.checked) (s := Rows.OpenSpec.upto Rows.cutWantsSpec) (k := Rows.uptoSmall) rfl own started (by kernel_rfl) func9
    (OpenSpec.witness (enc := enc) (C := Go.Proofs.Try.checked) (s := Rows.OpenSpec.upto Rows.cutWantsSpec) (k := Rows.uptoSmall) rfl false ⟨#[], #[.agg #[.int .i64 0, .slice none 0 0, .slice none 0 0], .int .i64 0], []⟩ 8 (by kernel_rfl) (by kernel_rfl) (by kernel_rfl)
      (x := ([.agg [.lit (.int .i64 0), .nil, .nil], .lit (.int .i64 0)], [], [])) (by kernel_rfl) rfl (by kernel_rfl)) ?_
  intro W base args ds gs before hval hW _ hk _
  exact cutWants_contract hrun H enc W base args ds gs before hval hW hk
theorem cutWants_over (hrun : ∀ {base : Nat} {h : Heap} {v0 v1 : AVal}, RibN 1048576 h v0 → IntV h v1 →  callL prog raw base (.fn 9 [] []) [v0, v1] h = some (.bool true, h)) :
    Rows.CutWantsUptoSaid :=
  OpenClaim.holds_of_cond 9 f9 rfl rfl rfl rfl rfl rfl rfl ⟨rfl, rfl, rfl, rfl, rfl⟩ rfl rfl rfl rfl rfl (by kernel_rfl) func9 (by kernel_rfl)
    (of_decide_eq_true (by kernel_rfl)) (by unfold Func.isWrapper; first | (rw [if_pos (by decide +kernel)]; kernel_rfl) | (rw [if_neg (by decide +kernel)]; exact ⟨rfl, rfl⟩))
    (fun os started H enc _ F => cutWants_lifted hrun os started H enc F)
end Go.AM
/-
  The reference: what a plan earns (Plan).
-/
namespace Go.AM
open Go.Proofs.Try
attribute [-go_sem] put_ne put_same
attribute [local go_sem ↓] put_if
section
variable {h : Heap} {pv : AVal} {P : List Ct} {i : Nat} {c : Ct}
theorem rct_len (hR : Rows encC h pv P) : lenOpA prog h 61 pv = some (.int .i64 (P.length : Int)) := hR.len (P := prog) Fc.el61
theorem rct_ad (hR : Rows encC h pv P) (hi : i < P.length) : indexAddrA prog 61 pv (.int .i64 (i : Int)) = some (elAdr pv encC.z i 0) := by
  have := hR.addr (P := prog) (i := (i : Int)) Fc.el61 Fc.ar61 (by omega) (by omega)
  rwa [Int.toNat_natCast] at this
theorem rct_ld (hR : Rows encC h pv P) (hx : P[i]? = some c) : loadP prog h 80 (elAdr pv encC.z i 0) = some (.agg [.int .i64 c.w, .int .i64 c.f, .bool c.j]) := hR.load (P := prog) Fc.ty80 hx
theorem rct_f0 (hR : Rows encC h pv P) (hi : i < P.length) : fieldAddrA prog 80 (elAdr pv encC.z i 0) 0 = some (elAdr pv encC.z i 0) := elAdr_field (P := prog) (i := i) (o := 0) (off := 0) (q := false) (n := 1) hR hi (by kernel_rfl) (by decide)
theorem rct_l0 (hR : Rows encC h pv P) (hx : P[i]? = some c) : loadP prog h 3 (elAdr pv encC.z i 0) = some (.int .i64 c.w) := hR.cell (P := prog) Fc.ty3 hx (o := 0) (a := .int .i64 c.w) rfl
end
end Go.AM
/-
  Marks; the units that are left over, as the reference tells them: run by run.
-/
namespace Go.AM
open Go.Proofs.Try
attribute [-go_sem] put_ne put_same
attribute [local go_sem ↓] put_if
def encO : Enc Bool := ⟨1, fun b => [.bool b], fun _ => rfl, by decide⟩
def mrk (n : Nat) (S : List Int) : List Bool := (List.range n).map fun k : Nat => decide ((k : Int) ∈ S)
abbrev mkB (n : Nat) (S : List Int) : ABlk := rowE encO 4 (mrk n S) 0
/-- How far the reference's list reaches. -/
structure Rch (t : List Int) (n u m : Nat) : Prop where
  le : u ≤ m ∧ m ≤ n
  fr : ∀ y : Nat, u ≤ y → y < m → (y : Int) ∉ t
  pr : u < m → 0 < u ∧ (u : Int) - 1 ∉ t
  ed : m < n → (m : Int) ∈ t ∨ (m = u ∧ (u = 0 ∨ (u : Int) - 1 ∈ t))
end Go.AM
/-
  The reference: the units that no cut takes (Rest).
-/
namespace Go.AM
open Go.Proofs.Try
attribute [-go_sem] put_ne put_same
attribute [local go_sem ↓] put_if
end Go.AM
/-
  Plain: what is earned at most and with how few cuts, forwards, in two rows.
-/
namespace Go.AM
def upS (s : List Int × List Int) (y : Nat) (a c : Int) : List Int × List Int := if thB true (a, c) (s.1.getD y 0, s.2.getD y 0) = true then (s.1.set y a, s.2.set y c) else s
def upC (x : Nat) (t : List Int × List Int) (c : Ct × Int × Int) : List Int × List Int := upS t c.2.1.toNat (t.1.getD x 0 + c.2.2) (t.2.getD x 0 + 1)
def upX (R : Rib) (x : Nat) (s : List Int × List Int) : List Int × List Int := (cutL R x).foldl (upC x) (upS s (x + 1) (s.1.getD x 0) (s.2.getD x 0))
def upN (R : Rib) (f : Nat) : Nat → List Int × List Int
  | 0 => (List.replicate (R.L.toNat + 1) 0, List.replicate (R.L.toNat + 1) 0)
  | n + 1 => upX R (f + n) (upN R f n)
/-- What is known of the rows. -/
structure UpK (n : Nat) (s : List Int × List Int) : Prop where
  l1 : s.1.length = n + 1
  l2 : s.2.length = n + 1
  b1 : ∀ y : Nat, 0 ≤ s.1.getD y 0 ∧ s.1.getD y 0 ≤ 100 * (y : Int)
  b2 : ∀ y : Nat, 0 ≤ s.2.getD y 0 ∧ s.2.getD y 0 ≤ (y : Int)
def keyS (s : List Int × List Int) : Nat → Int := fun i => key true (s.1.getD i 0, s.2.getD i 0)
theorem getD_setD {l : List Int} {i j : Nat} {a : Int} (hj : j < l.length) : (l.set j a).getD i 0 = if i = j then a else l.getD i 0 := by
  simp only [List.getD_eq_getElem?_getD, List.getElem?_set]
  by_cases e : i = j
  · subst e; rw [if_pos rfl, if_pos hj, if_pos rfl]; rfl
  · rw [if_neg (fun q => e q.symm), if_neg e]
theorem UpK.one {n y : Nat} {s : List Int × List Int} {a c : Int} (h : UpK n s) (hn : n ≤ 60) (hy : y ≤ n) (ha : 0 ≤ a ∧ a ≤ 100 * (y : Int)) (hc : 0 ≤ c ∧ c ≤ (y : Int)) : UpK n (upS s y a c) ∧ keyS (upS s y a c) = rlx (keyS s) y (key true (a, c)) ∧ ∀ x, x < y → (upS s y a c).1.getD x 0 = s.1.getD x 0 ∧ (upS s y a c).2.getD x 0 = s.2.getD x 0 := by
  have h1 := h.l1
  have h2 := h.l2
  have q1 := h.b1 y
  have q2 := h.b2 y
  have hk := thB_key (b := true) (n := (a, c)) (m := (s.1.getD y 0, s.2.getD y 0)) (by simp only; omega) (by simp only; omega)
  unfold upS
  by_cases e : thB true (a, c) (s.1.getD y 0, s.2.getD y 0) = true
  · rw [if_pos e]
    have hlt := hk.1 e
    refine ⟨⟨by simp [h1], by simp [h2], fun z => ?_, fun z => ?_⟩, ?_, fun x hx => ?_⟩
    · simp only
      rw [getD_setD (by omega)]
      split
      · rename_i q; subst q; exact ha
      · exact h.b1 z
    · simp only
      rw [getD_setD (by omega)]
      split
      · rename_i q; subst q; exact hc
      · exact h.b2 z
    · funext i
      unfold keyS rlx
      simp only
      rw [getD_setD (by omega), getD_setD (by omega)]
      by_cases q : i = y
      · subst q
        rw [if_pos rfl, if_pos rfl, if_pos rfl]
        exact (Int.max_eq_right (Int.le_of_lt hlt)).symm
      · rw [if_neg q, if_neg q, if_neg q]
    · simp only
      rw [getD_setD (by omega), getD_setD (by omega), if_neg (by omega), if_neg (by omega)]
      exact ⟨rfl, rfl⟩
  · rw [if_neg e]
    have hlt : ¬ key true (s.1.getD y 0, s.2.getD y 0) < key true (a, c) := fun q => e (hk.2 q)
    refine ⟨h, ?_, fun x _ => ⟨rfl, rfl⟩⟩
    funext i
    unfold keyS rlx
    split
    · rename_i q; subst q; exact (Int.max_eq_left (Int.not_lt.1 hlt)).symm
    · rfl
section
variable {R : Rib} {x : Nat}
/-- Part of a position's cuts. -/
theorem upX_part (hR : RibOk R) (hx : x < R.L.toNat) {s : List Int × List Int} (h : UpK R.L.toNat s) : ∀ (l : List (Ct × Int × Int)) (t : List Int × List Int) (K : Nat → Int), (∀ c ∈ l, c ∈ cutL R x) → UpK R.L.toNat t → t.1.getD x 0 = s.1.getD x 0 → t.2.getD x 0 = s.2.getD x 0 → keyS t = K →
    UpK R.L.toNat (l.foldl (upC x) t) ∧ keyS (l.foldl (upC x) t) = l.foldl (fun K' c => rlx K' c.2.1.toNat (keyS s x + omg true c.2.2)) K ∧ (l.foldl (upC x) t).1.getD x 0 = s.1.getD x 0 ∧ (l.foldl (upC x) t).2.getD x 0 = s.2.getD x 0
  | [], t, K, _, k, e1, e2, e3 => ⟨k, e3, e1, e2⟩
  | c :: l, t, K, hl, k, e1, e2, e3 => by
    have hL := hR.L
    obtain ⟨hb, hf, hw0, hw1, w, hw, ht⟩ := cutL_b hR hx (hl c (by simp))
    have htb := takL_b hR (hR.W w (List.mem_of_getElem? hw)) hx ht
    have b1 := h.b1 x
    have b2 := h.b2 x
    obtain ⟨g1, g2, g3⟩ := k.one (y := c.2.1.toNat) (a := t.1.getD x 0 + c.2.2) (c := t.2.getD x 0 + 1) (by omega) (by omega) (by rw [e1]; omega) (by rw [e2]; omega)
    have g4 := g3 x (by omega)
    rw [List.foldl_cons, List.foldl_cons]
    refine upX_part hR hx h l _ _ (fun d hd => hl d (by simp [hd])) g1 (g4.1.trans e1) (g4.2.trans e2) ?_
    show keyS (upS t c.2.1.toNat (t.1.getD x 0 + c.2.2) (t.2.getD x 0 + 1)) = _
    rw [g2, e1, e2, key_add, e3, Int.add_comm]
    rfl
theorem UpK.step (hR : RibOk R) (hx : x < R.L.toNat) {s : List Int × List Int} (h : UpK R.L.toNat s) : UpK R.L.toNat (upX R x s) ∧ keyS (upX R x s) = fwX R (omg true) x (keyS s) := by
  have hL := hR.L
  have b1 := h.b1 x
  have b2 := h.b2 x
  obtain ⟨g1, g2, g3⟩ := h.one (y := x + 1) (a := s.1.getD x 0) (c := s.2.getD x 0) (by omega) (by omega) (by omega) (by omega)
  have g4 := g3 x (by omega)
  obtain ⟨p1, p2, -, -⟩ := upX_part hR hx h (cutL R x) _ _ (fun _ q => q) g1 g4.1 g4.2 g2
  exact ⟨p1, p2⟩
theorem upN_ok (hR : RibOk R) {f : Nat} : ∀ {n : Nat}, f + n ≤ R.L.toNat → UpK R.L.toNat (upN R f n) ∧ keyS (upN R f n) = fwN R (omg true) n f (fun _ => 0)
  | 0, _ => by
    have hz : ∀ (n y : Nat), (List.replicate n (0 : Int)).getD y 0 = 0 := fun n y => by
      simp only [List.getD_eq_getElem?_getD, List.getElem?_replicate]; split <;> rfl
    refine ⟨⟨by simp [upN], by simp [upN], fun y => ?_, fun y => ?_⟩, ?_⟩
    · simp only [upN, hz]; omega
    · simp only [upN, hz]; omega
    · funext i; simp only [keyS, upN, hz, fwN, key]; rfl
  | n + 1, h => by
    obtain ⟨h1, h2⟩ := upN_ok hR (f := f) (n := n) (by omega)
    obtain ⟨g1, g2⟩ := h1.step hR (show f + n < R.L.toNat by omega)
    refine ⟨g1, ?_⟩
    rw [fwN_succ, ← h2]; exact g2
/-- **The most that is earned, and the fewest cuts for it.** -/
theorem up_end (hR : RibOk R) {f : Nat} (hf : f ≤ R.L.toNat) : (upN R f (R.L.toNat - f)).1.getD R.L.toNat 0 = valD R f ∧ (upN R f (R.L.toNat - f)).2.getD R.L.toNat 0 = (folD true R f).c := by
  have hL := hR.L
  obtain ⟨h1, h2⟩ := upN_ok hR (f := f) (n := R.L.toNat - f) (by omega)
  have h3 := fw_back hR (folD_back (b := true) hR) hf
  rw [← h2] at h3
  have b1 := h1.b1 R.L.toNat
  have b2 := h1.b2 R.L.toNat
  have fb := folD_bd (b := true) (x := f) hR
  rw [← folD_e (b := true) hR hf]
  unfold keyS key at h3
  simp only [if_true] at h3
  omega
end
end Go.AM
