/-
  The static checks of all functions.
-/
import Derived.Test.YtlhmeoeamcgcmaaGreatA4
import Derived.Test.YtlhmeoeamcgcmaaGreatProg
import Derived.KernelRfl
import Derived.Test.YtlhmeoeamcgcmaaGreatA6
import Derived.Carry
import Derived.ChangeSame
import Derived.Lib.SmallJoins
import Derived.Test.YtlhmeoeamcgcmaaGreatKJ
import Derived.Test.YtlhmeoeamcgcmaaGreatRows
import Derived.WalkKit
import Derived.ProofKit
import Derived.OpenShut
import Derived.JoinedCond
set_option linter.unusedSimpArgs false
set_option linter.unusedVariables false
namespace Go.AM
open Go.Proofs.Tryz
def fnOk (fn : Func) : Bool := match fn.body with
  | some c => okS true fn.ntmps c && !(fn.name == "runtime.NumGoroutine")
  | none => true
theorem allFn : (Go.Proofs.Tryz.prog.funcs.all fnOk) = true := by kernel_rfl
theorem mixed : Go.Proofs.Tryz.prog.follows .mixedOrders = true := by kernel_rfl
theorem allOk : AllOk Go.Proofs.Tryz.prog := by
  refine ⟨fun f fn c hf hc => ?_, mixed⟩
  have := Array.all_eq_true'.1 allFn fn (Array.mem_of_getElem? hf)
  simp [fnOk, hc] at this
  exact ⟨this.1, by simpa using this.2⟩
end Go.AM
/-
  From readings of arguments to the abstract machine: rows of memory that are only read.
-/
namespace Go.AM
open Go.RowKit Go.ChangeShapes
/-- A stretch of the model's memory, and what it holds. -/
structure Rw where
  blk : Nat
  off : Nat
  cs : List AVal
def Rw.ok (w : World) (r : Rw) : Prop := ∃ (C : Array Value) (T : TypeId) (fz : Nat × Nat), w.heap[r.blk]? = some (.cells C T fz) ∧ r.off + r.cs.length ≤ C.size ∧
  ∀ (i : Nat) (x : AVal) (y : Value), r.cs[i]? = some x → C[r.off + i]? = some y → ∃ k n, x = .int k n ∧ y = .int k n
def muR (R : List Rw) : Mu := { loc := fun id v => if v = 0 then (R[id]?).map fun r => ⟨r.blk, r.off, r.cs.length, 0⟩ else none, anon := fun _ => none }
def heapR (R : List Rw) : Heap := R.map fun r => ⟨.cells r.cs 3 false true, 0⟩
theorem heapR_get {R : List Rw} {i : Nat} {r : Rw} (h : R[i]? = some r) : (heapR R)[i]? = some ⟨.cells r.cs 3 false true, 0⟩ := by simp [heapR, h]
theorem muR_loc {R : List Rw} {i : Nat} {r : Rw} (h : R[i]? = some r) : (muR R).loc i 0 = some ⟨r.blk, r.off, r.cs.length, 0⟩ := by simp [muR, h]
theorem muR_inv {R : List Rw} {i v : Nat} {L : Loc} (h : (muR R).loc i v = some L) : v = 0 ∧ ∃ r, R[i]? = some r ∧ L = ⟨r.blk, r.off, r.cs.length, 0⟩ := by
  simp only [muR] at h
  split at h
  · rename_i hv
    cases hr : R[i]? with
    | none => rw [hr] at h; cases h
    | some r => rw [hr] at h; cases h; exact ⟨hv, r, rfl, rfl⟩
  · cases h
theorem hrelR {P : Program} {R : List Rw} {w : World} (hR : ∀ r ∈ R, r.ok w) : HRel P (muR R) (heapR R) w := by
  refine ⟨fun id v L h => ?_, fun id b L hb h => ?_, fun i j b c L M hij hb hc hL hM hwr => ?_, fun id v L b h hb => ?_, fun b l h => ?_, fun b l h => ?_⟩
  · obtain ⟨rfl, r, hr, rfl⟩ := muR_inv h
    obtain ⟨C, T, fz, h1, _⟩ := hR r (List.mem_of_getElem? hr)
    refine ⟨_, heapR_get hr, Nat.zero_le _, ?_⟩
    exact (Array.getElem?_eq_some_iff.1 h1).1
  · obtain ⟨hv, r, hr, rfl⟩ := muR_inv h
    rw [heapR_get hr] at hb
    cases hb
    obtain ⟨C, T, fz, h1, h2, h3⟩ := hR r (List.mem_of_getElem? hr)
    refine ⟨C, T, fz, h1, Nat.le_refl _, h2, fun i x y hx hy => ?_, rfl, fun h => by cases h⟩
    obtain ⟨k, n, rfl, rfl⟩ := h3 i x y hx hy
    exact .int k n
  · obtain ⟨_, r, hr, rfl⟩ := muR_inv hL
    rw [heapR_get hr] at hb
    cases hb
    cases hwr
  · obtain ⟨rfl, r, hr, rfl⟩ := muR_inv h
    rw [heapR_get hr] at hb
    cases hb
    exact ⟨_, muR_loc hr⟩
  · cases h
  · cases h
theorem no_img {R : List Rw} {b : Nat} : ¬ WImg (muR R) (heapR R) b := by
  rintro ⟨id, k, L, h1, h2, h3, _⟩
  obtain ⟨_, r, hr, _⟩ := muR_inv h2
  rw [heapR_get hr] at h1
  cases h1
  cases h3
/-- Behind a call nothing has turned that was there before. -/
theorem below_of_evo {R : List Rw} {w w' : World} {μ' : Mu} {h' : Heap} (E : Evo (muR R) (heapR R) w μ' h' w') : Below w.heap.size w w' :=
  ⟨E.os, E.tape, E.output, E.size, fun b hb => (E.keep b hb no_img).1⟩
/-- The arguments read as they did. -/
theorem trodAll_below {H : Type} {enc : TypeId × Value → H} {P : Program} (hl : laidOutB P = true) {W W' : World} (hb : Below W.heap.size W W') {sp' : Nat → Bool} : ∀ {ts : List TypeId} {vs : List Value} {ds : List (DataW H)} {ps : List MemPlace},
    (∀ t ∈ ts, P.readableRec t = true ∧ t < P.types.size) → DataW.TrodAll enc P W 0 (fun _ => true) true ts vs ds ps → (∀ p ∈ ps, p.block < W.heap.size ∧ sp' p.block = true) → DataW.TrodAll enc P W' 0 sp' true ts vs ds ps
  | [], vs, ds, ps, _, h, _ => by
    obtain ⟨rfl, rfl, rfl⟩ := trodAll_nil h
    exact trodAll_mk0
  | t :: ts, vs, ds, ps, hr, h, hp => by
    obtain ⟨v, vs1, d, ds1, a, b, rfl, rfl, rfl, h1, h2⟩ := trodAll_cons h
    exact trodAll_cons_mk (WideElems.Trod_stays hl (hr t (by simp)).1 (hr t (by simp)).2 h1 (fun x hx => hb.same (hp x (by simp [hx])).1) (fun x hx => (hp x (by simp [hx])).2))
      (trodAll_below hl hb (fun u hu => hr u (by simp [hu])) h2 (fun x hx => hp x (by simp [hx])))
/-- What a row asks behind the call, where all old memory is as it was. -/
theorem post_below {H : Type} {enc : TypeId × Value → H} {P : Program} {f : Func} {s : ChangeSpec} {apart fresh handsOn again : Bool} {W W' : World} {args : Array Value} {v : Value} {ds : List (DataW H)} {before : List MemPlace}
    (hl : laidOutB P = true) (hr : ∀ t ∈ f.params.toList, P.readableRec t = true ∧ t < P.types.size) (hb : Below W.heap.size W W') (hvars : s.vars = [])
    (hW : DataW.Whole enc P f.params.toList s.vars apart W args.toList ds [] before)
    (hres : ∀ (b : Nat) (sp : Nat → Bool) (hd : Bool), DataW.TrodAll enc P W' b sp hd f.resultTypes.toList (v.resultList f.resultTypes.size) (s.fn H (ds ++ [])).results [])
    (hargs : (s.fn H (ds ++ [])).args = ds) (hgs : (s.fn H (ds ++ [])).vars = [])
    (hok : ∀ (j : Nat) (t : TypeId) (r : Value), f.resultTypes[j]? = some t → (v.resultList f.resultTypes.size)[j]? = some r → Value.okWide P W' .any 0 t r) :
    s.post enc P f apart fresh handsOn again W args v W' := by
  have hlt := hW.lt
  obtain ⟨p, q, hA, hV, hpq, hz, hn⟩ := hW
  have hq : q = [] := by rw [hvars] at hV; exact (trodVars_none hV).2
  subst hq
  rw [List.append_nil] at hpq
  subst hpq
  have args' : ∀ sp : Nat → Bool, (∀ p ∈ before, sp p.block = true) → DataW.TrodAll enc P W' 0 sp true f.params.toList args.toList ds before := fun sp hs =>
    trodAll_below hl hb hr hA (fun x hx => ⟨by simpa using hlt x hx, hs x hx⟩)
  have vars' : ∀ sp, DataW.TrodVars enc P W' sp s.vars ([] : List (DataW H)) [] := fun sp => by rw [hvars]; simp [DataW.TrodVars]
  refine ⟨ds, [], before, [], before, [], ⟨before, [], hA, hV, by simp, hz, hn⟩, hres _ _ _, by rw [hargs]; exact args' _ (fun x hx => by simpa using hlt x hx), by rw [hgs]; exact vars' _, ?_, fun _ => ?_⟩
  · exact hb.frame _
  · refine ⟨hok, _, _, ([] ++ before) ++ [], ⟨[] ++ before, [], trodAll_append (args' _ (fun _ _ => rfl)) (hres _ _ _), vars' _, rfl, ?_, ?_⟩, ?_⟩
    · intro b off hp
      rw [hb.frozen (show b < W.heap.size from hlt (.cell b off) (by simpa using hp))]
      exact hz b off (by simpa using hp)
    · intro ha
      simpa using hn ha
    · intro p hp _
      simpa using hp
/-! ### A slice of integers that came in -/
theorem add_block (a : Addr) (n : Nat) : (a.add n).block = a.block := by unfold Addr.add; split <;> rfl
theorem add_off (a : Addr) (n : Nat) : (a.add n).off = a.off + n := by
  unfold Addr.add; split
  · rename_i h; subst h; rfl
  · rfl
/-- A slice of numbers that came in: its row, its value. -/
theorem arg_slice {H : Type} {enc : TypeId × Value → H} {P : Program} {W : World} {t e : TypeId} {k : IntKind} {n : Nat} {V : Value} {x : DataW H × List MemPlace} (ht : P.underlying t = some (.slice e)) (he : P.underlying e = some (.int k)) (hc : P.cellsOf e = 1)
    (h : DataW.trod enc P W 0 (fun _ => true) true n t [V] = some x) :
    ∃ (r : Rw) (zs : List Int) (len cap : Nat), (r.cs = [] ∨ r.ok W) ∧ r.cs = zs.map (AVal.int k) ∧ zs.length = cap ∧ len ≤ cap ∧ (∀ z ∈ zs, (Lit.int k z).wf = true) ∧ (x.1 = .nil ∨ x.1 = .slice (lits k (zs.take len)) (lits k (zs.drop len))) ∧
      ∀ (i : Nat) (μ : Mu), (0 < cap → μ.loc i 0 = some ⟨r.blk, r.off, r.cs.length, 0⟩) → ∃ v, VR μ v V ∧ ((v = .slice none 0 0 ∧ cap = 0) ∨ (v = .emp ∧ cap = 0) ∨ (v = .slice (some ⟨i, 0, 0⟩) len cap ∧ 0 < cap)) := by
  rcases Go.ChangeShapes.open_ints ht he hc h with ⟨h1, h2⟩ | ⟨a, len, cap, zs, h1, h2, h3, h4, h5, h6, h7, h8⟩
  · refine ⟨⟨0, 0, []⟩, [], 0, 0, .inl rfl, rfl, rfl, Nat.le_refl _, by simp, .inl (by rw [h2]), fun i μ hμ => ⟨.slice none 0 0, ?_, .inl ⟨rfl, rfl⟩⟩⟩
    simp only [List.cons.injEq, and_true] at h1
    rw [h1]
    exact .sliceN
  · simp only [List.cons.injEq, and_true] at h1
    subst h1
    simp only [if_true] at h5
    by_cases hcap : cap = 0
    · subst hcap
      have hz : zs = [] := List.eq_nil_of_length_eq_zero h5
      have hl : len = 0 := by omega
      subst hz hl
      exact ⟨⟨0, 0, []⟩, [], 0, 0, .inl rfl, rfl, rfl, Nat.le_refl _, by simp, .inr (by rw [h6]), fun i μ hμ => ⟨.emp, .emp a, .inr (.inl ⟨rfl, rfl⟩)⟩⟩
    · have h0 := h7 0 (by omega)
      unfold World.cell? at h0
      rw [add_block] at h0
      cases hb : W.heap[a.block]? with
      | none => rw [hb] at h0; cases h0
      | some o =>
        rw [hb] at h0
        cases o with
        | cells C T fz =>
          simp only at h0
          split at h0
          · cases h0
          · rename_i hsp
            have hcell : ∀ i, i < zs.length → C[a.off + i]? = some (.int k (zs.getD i 0)) := fun i hi => by
              have := h7 i hi
              unfold World.cell? at this
              rw [add_block, hb] at this
              simp only at this
              split at this
              · cases this
              · rwa [add_off] at this
            refine ⟨⟨a.block, a.off, zs.map (AVal.int k)⟩, zs, len, cap, .inr ⟨C, T, fz, hb, ?_, fun i x y hx hy => ?_⟩, rfl, h5, h3, h8, .inr (by rw [h6]), fun i μ hμ => ⟨.slice (some ⟨i, 0, 0⟩) len cap, ?_, .inr (.inr ⟨rfl, by omega⟩)⟩⟩
            · have := hcell (zs.length - 1) (by omega)
              have := (Array.getElem?_eq_some_iff.1 this).1
              simp only [List.length_map]
              omega
            · simp only [List.getElem?_map] at hx
              cases hz : zs[i]? with
              | none => rw [hz] at hx; cases hx
              | some z =>
                rw [hz] at hx
                cases hx
                have hi := (List.getElem?_eq_some_iff.1 hz).1
                have := hcell i hi
                simp only at hy
                rw [this] at hy
                cases hy
                refine ⟨k, z, rfl, ?_⟩
                simp [List.getD_eq_getElem?_getD, hz]
            · have ha : a = ⟨a.block, a.off, none⟩ := by
                cases a with
                | mk b o sp =>
                  simp only [Addr.add, if_true] at hsp
                  cases sp with
                  | none => rfl
                  | some z => exact absurd rfl hsp
              have hv := VR.slice (μ := μ) ⟨i, 0, 0⟩ ⟨a.block, a.off, (zs.map (AVal.int k)).length, 0⟩ len cap cap (hμ (by omega)) (by omega) h3 (Nat.le_refl _) (fun _ => .inl rfl)
              rw [ha]
              simpa using hv
        | _ => cases h0
end Go.AM
/-
  Calls that the abstract machine answers; slices of numbers that came in.
-/
namespace Go.AM
open Go.Proofs.Tryz Go.RowKit Go.ChangeShapes
theorem own : ownKnob Go.Proofs.Tryz.prog.godebug = none := by kernel_rfl
theorem laid : laidOutB Go.Proofs.Tryz.prog = true := by kernel_rfl
/-- A call that the abstract machine answers with true. -/
theorem calls_true {f : FuncId} {args : List AVal} {A : Array Value} {R : List Rw} {W : World} {h' : Heap} (hR : ∀ r ∈ R, r.ok W) (hargs : VRs (muR R) args A.toList) (hv : callL prog raw 0 (.fn f [] []) args (heapR R) = some (.bool true, h')) :
    Calls prog f A W fun e W' => e = .returned (.bool true) ∧ Below W.heap.size W W' := by
  have h0 := callL_sound (raw := raw) allOk (Nat.zero_le _) (hrelR (P := prog) hR) hargs hv
  refine (callsIn_wide.1 h0).mono fun e W' ⟨X, he, μ', _, hX, _, hE, _⟩ => ?_
  have : X = .bool true := by cases hX; rfl
  subst this
  exact ⟨he, below_of_evo hE⟩
theorem bulk_slice {H : Type} {k : IntKind} {us vs : List Int} : Go.Proofs.YtlhmeoeamcgcmaaGreat.Rows.uptoBulk (.slice (lits (H := H) k us) (lits k vs)) = us.length + vs.length + 1 := by
  have h : ∀ l : List Int, Go.Proofs.YtlhmeoeamcgcmaaGreat.Rows.uptoBulkAll (lits (H := H) k l) = l.length := fun l => by
    induction l with
    | nil => rfl
    | cons x xs ih =>
      simp only [lits, List.map_cons, Go.Proofs.YtlhmeoeamcgcmaaGreat.Rows.uptoBulkAll, Go.Proofs.YtlhmeoeamcgcmaaGreat.Rows.uptoBulk, List.length_cons] at ih ⊢
      rw [ih]; omega
  simp only [Go.Proofs.YtlhmeoeamcgcmaaGreat.Rows.uptoBulk, h]
end Go.AM
