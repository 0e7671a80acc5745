import Derived.Test.YtppkmjfplhenmaaA4
import Derived.Test.YtppkmjfplhenmaaProg
import Derived.KernelRfl
import Derived.Test.YtppkmjfplhenmaaA6
import Derived.Carry
import Derived.ChangeSame
import Derived.Lib.SmallJoins
import Derived.Test.YtppkmjfplhenmaaD14
import Derived.Test.YtppkmjfplhenmaaRows
import Derived.WalkKit
import Derived.ProofKit
import Derived.OpenShut
import Derived.JoinedCond
set_option linter.unusedSimpArgs false
set_option linter.unusedVariables false
namespace Go.AM
open Go.Proofs.Try
def fnOk (fn : Func) : Bool := match fn.body with
  | some c => okS true fn.ntmps c && !(fn.name == "runtime.NumGoroutine")
  | none => true
theorem allFn : (Go.Proofs.Try.prog.funcs.all fnOk) = true := by kernel_rfl
theorem mixed : Go.Proofs.Try.prog.follows .mixedOrders = true := by kernel_rfl
theorem allOk : AllOk Go.Proofs.Try.prog := by
  refine ⟨fun f fn c hf hc => ?_, mixed⟩
  have := Array.all_eq_true'.1 allFn fn (Array.mem_of_getElem? hf)
  simp [fnOk, hc] at this
  exact ⟨this.1, by simpa using this.2⟩
end Go.AM
/-
  From readings of arguments to the abstract machine: rows of memory that are only read.
-/
namespace Go.AM
open Go.RowKit Go.ChangeShapes

/-- A stretch of the model's memory, and what it holds. -/
structure Rw where
  blk : Nat
  off : Nat
  cs : List AVal

def Rw.ok (w : World) (r : Rw) : Prop := ∃ (C : Array Value) (T : TypeId) (fz : Nat × Nat), w.heap[r.blk]? = some (.cells C T fz) ∧ r.off + r.cs.length ≤ C.size ∧
  ∀ (i : Nat) (x : AVal) (y : Value), r.cs[i]? = some x → C[r.off + i]? = some y → ∃ k n, x = .int k n ∧ y = .int k n
def muR (R : List Rw) : Mu := { loc := fun id v => if v = 0 then (R[id]?).map fun r => ⟨r.blk, r.off, r.cs.length, 0⟩ else none, anon := fun _ => none }
def heapR (R : List Rw) : Heap := R.map fun r => ⟨.cells r.cs 3 false true, 0⟩

theorem heapR_get {R : List Rw} {i : Nat} {r : Rw} (h : R[i]? = some r) : (heapR R)[i]? = some ⟨.cells r.cs 3 false true, 0⟩ := by simp [heapR, h]
theorem muR_loc {R : List Rw} {i : Nat} {r : Rw} (h : R[i]? = some r) : (muR R).loc i 0 = some ⟨r.blk, r.off, r.cs.length, 0⟩ := by simp [muR, h]
theorem muR_inv {R : List Rw} {i v : Nat} {L : Loc} (h : (muR R).loc i v = some L) : v = 0 ∧ ∃ r, R[i]? = some r ∧ L = ⟨r.blk, r.off, r.cs.length, 0⟩ := by
  simp only [muR] at h
  split at h
  · rename_i hv
    cases hr : R[i]? with
    | none => rw [hr] at h; cases h
    | some r => rw [hr] at h; cases h; exact ⟨hv, r, rfl, rfl⟩
  · cases h

theorem hrelR {P : Program} {R : List Rw} {w : World} (hR : ∀ r ∈ R, r.ok w) : HRel P (muR R) (heapR R) w := by
  refine ⟨fun id v L h => ?_, fun id b L hb h => ?_, fun i j b c L M hij hb hc hL hM hwr => ?_, fun id v L b h hb => ?_, fun b l h => ?_, fun b l h => ?_⟩
  · obtain ⟨rfl, r, hr, rfl⟩ := muR_inv h
    obtain ⟨C, T, fz, h1, _⟩ := hR r (List.mem_of_getElem? hr)
    refine ⟨_, heapR_get hr, Nat.zero_le _, ?_⟩
    exact (Array.getElem?_eq_some_iff.1 h1).1
  · obtain ⟨hv, r, hr, rfl⟩ := muR_inv h
    rw [heapR_get hr] at hb
    cases hb
    obtain ⟨C, T, fz, h1, h2, h3⟩ := hR r (List.mem_of_getElem? hr)
    refine ⟨C, T, fz, h1, Nat.le_refl _, h2, fun i x y hx hy => ?_, rfl, fun h => by cases h⟩
    obtain ⟨k, n, rfl, rfl⟩ := h3 i x y hx hy
    exact .int k n
  · obtain ⟨_, r, hr, rfl⟩ := muR_inv hL
    rw [heapR_get hr] at hb
    cases hb
    cases hwr
  · obtain ⟨rfl, r, hr, rfl⟩ := muR_inv h
    rw [heapR_get hr] at hb
    cases hb
    exact ⟨_, muR_loc hr⟩
  · cases h
  · cases h

theorem no_img {R : List Rw} {b : Nat} : ¬ WImg (muR R) (heapR R) b := by
  rintro ⟨id, k, L, h1, h2, h3, _⟩
  obtain ⟨_, r, hr, _⟩ := muR_inv h2
  rw [heapR_get hr] at h1
  cases h1
  cases h3

/-- Behind a call nothing has turned that was there before. -/
theorem below_of_evo {R : List Rw} {w w' : World} {μ' : Mu} {h' : Heap} (E : Evo (muR R) (heapR R) w μ' h' w') : Below w.heap.size w w' :=
  ⟨E.os, E.tape, E.output, E.size, fun b hb => (E.keep b hb no_img).1⟩

/-- The arguments read as they did. -/
theorem trodAll_below {H : Type} {enc : TypeId × Value → H} {P : Program} (hl : laidOutB P = true) {W W' : World} (hb : Below W.heap.size W W') {sp' : Nat → Bool} : ∀ {ts : List TypeId} {vs : List Value} {ds : List (DataW H)} {ps : List MemPlace},
    (∀ t ∈ ts, P.readableRec t = true ∧ t < P.types.size) → DataW.TrodAll enc P W 0 (fun _ => true) true ts vs ds ps → (∀ p ∈ ps, p.block < W.heap.size ∧ sp' p.block = true) → DataW.TrodAll enc P W' 0 sp' true ts vs ds ps
  | [], vs, ds, ps, _, h, _ => by
    obtain ⟨rfl, rfl, rfl⟩ := trodAll_nil h
    exact trodAll_mk0
  | t :: ts, vs, ds, ps, hr, h, hp => by
    obtain ⟨v, vs1, d, ds1, a, b, rfl, rfl, rfl, h1, h2⟩ := trodAll_cons h
    exact trodAll_cons_mk (WideElems.Trod_stays hl (hr t (by simp)).1 (hr t (by simp)).2 h1 (fun x hx => hb.same (hp x (by simp [hx])).1) (fun x hx => (hp x (by simp [hx])).2))
      (trodAll_below hl hb (fun u hu => hr u (by simp [hu])) h2 (fun x hx => hp x (by simp [hx])))

/-- What a row asks behind the call, where all old memory is as it was. -/
theorem post_below {H : Type} {enc : TypeId × Value → H} {P : Program} {f : Func} {s : ChangeSpec} {apart fresh handsOn again : Bool} {W W' : World} {args : Array Value} {v : Value} {ds : List (DataW H)} {before : List MemPlace}
    (hl : laidOutB P = true) (hr : ∀ t ∈ f.params.toList, P.readableRec t = true ∧ t < P.types.size) (hb : Below W.heap.size W W') (hvars : s.vars = [])
    (hW : DataW.Whole enc P f.params.toList s.vars apart W args.toList ds [] before)
    (hres : ∀ (b : Nat) (sp : Nat → Bool) (hd : Bool), DataW.TrodAll enc P W' b sp hd f.resultTypes.toList (v.resultList f.resultTypes.size) (s.fn H (ds ++ [])).results [])
    (hargs : (s.fn H (ds ++ [])).args = ds) (hgs : (s.fn H (ds ++ [])).vars = [])
    (hok : ∀ (j : Nat) (t : TypeId) (r : Value), f.resultTypes[j]? = some t → (v.resultList f.resultTypes.size)[j]? = some r → Value.okWide P W' .any 0 t r) :
    s.post enc P f apart fresh handsOn again W args v W' := by
  have hlt := hW.lt
  obtain ⟨p, q, hA, hV, hpq, hz, hn⟩ := hW
  have hq : q = [] := by rw [hvars] at hV; exact (trodVars_none hV).2
  subst hq
  rw [List.append_nil] at hpq
  subst hpq
  have args' : ∀ sp : Nat → Bool, (∀ p ∈ before, sp p.block = true) → DataW.TrodAll enc P W' 0 sp true f.params.toList args.toList ds before := fun sp hs =>
    trodAll_below hl hb hr hA (fun x hx => ⟨by simpa using hlt x hx, hs x hx⟩)
  have vars' : ∀ sp, DataW.TrodVars enc P W' sp s.vars ([] : List (DataW H)) [] := fun sp => by rw [hvars]; simp [DataW.TrodVars]
  refine ⟨ds, [], before, [], before, [], ⟨before, [], hA, hV, by simp, hz, hn⟩, hres _ _ _, by rw [hargs]; exact args' _ (fun x hx => by simpa using hlt x hx), by rw [hgs]; exact vars' _, ?_, fun _ => ?_⟩
  · exact hb.frame _
  · refine ⟨hok, _, _, ([] ++ before) ++ [], ⟨[] ++ before, [], trodAll_append (args' _ (fun _ _ => rfl)) (hres _ _ _), vars' _, rfl, ?_, ?_⟩, ?_⟩
    · intro b off hp
      rw [hb.frozen (show b < W.heap.size from hlt (.cell b off) (by simpa using hp))]
      exact hz b off (by simpa using hp)
    · intro ha
      simpa using hn ha
    · intro p hp _
      simpa using hp

/-! ### A slice of integers that came in -/
theorem add_block (a : Addr) (n : Nat) : (a.add n).block = a.block := by unfold Addr.add; split <;> rfl
theorem add_off (a : Addr) (n : Nat) : (a.add n).off = a.off + n := by
  unfold Addr.add; split
  · rename_i h; subst h; rfl
  · rfl

/-- A slice of numbers that came in: its row, its value. -/
theorem arg_slice {H : Type} {enc : TypeId × Value → H} {P : Program} {W : World} {t e : TypeId} {k : IntKind} {n : Nat} {V : Value} {x : DataW H × List MemPlace} (ht : P.underlying t = some (.slice e)) (he : P.underlying e = some (.int k)) (hc : P.cellsOf e = 1)
    (h : DataW.trod enc P W 0 (fun _ => true) true n t [V] = some x) :
    ∃ (r : Rw) (zs : List Int) (len cap : Nat), (r.cs = [] ∨ r.ok W) ∧ r.cs = zs.map (AVal.int k) ∧ zs.length = cap ∧ len ≤ cap ∧ (∀ z ∈ zs, (Lit.int k z).wf = true) ∧ (x.1 = .nil ∨ x.1 = .slice (lits k (zs.take len)) (lits k (zs.drop len))) ∧
      ∀ (i : Nat) (μ : Mu), (0 < cap → μ.loc i 0 = some ⟨r.blk, r.off, r.cs.length, 0⟩) → ∃ v, VR μ v V ∧ ((v = .slice none 0 0 ∧ cap = 0) ∨ (v = .emp ∧ cap = 0) ∨ (v = .slice (some ⟨i, 0, 0⟩) len cap ∧ 0 < cap)) := by
  rcases Go.ChangeShapes.open_ints ht he hc h with ⟨h1, h2⟩ | ⟨a, len, cap, zs, h1, h2, h3, h4, h5, h6, h7, h8⟩
  · refine ⟨⟨0, 0, []⟩, [], 0, 0, .inl rfl, rfl, rfl, Nat.le_refl _, by simp, .inl (by rw [h2]), fun i μ hμ => ⟨.slice none 0 0, ?_, .inl ⟨rfl, rfl⟩⟩⟩
    simp only [List.cons.injEq, and_true] at h1
    rw [h1]
    exact .sliceN
  · simp only [List.cons.injEq, and_true] at h1
    subst h1
    simp only [if_true] at h5
    by_cases hcap : cap = 0
    · subst hcap
      have hz : zs = [] := List.eq_nil_of_length_eq_zero h5
      have hl : len = 0 := by omega
      subst hz hl
      exact ⟨⟨0, 0, []⟩, [], 0, 0, .inl rfl, rfl, rfl, Nat.le_refl _, by simp, .inr (by rw [h6]), fun i μ hμ => ⟨.emp, .emp a, .inr (.inl ⟨rfl, rfl⟩)⟩⟩
    · have h0 := h7 0 (by omega)
      unfold World.cell? at h0
      rw [add_block] at h0
      cases hb : W.heap[a.block]? with
      | none => rw [hb] at h0; cases h0
      | some o =>
        rw [hb] at h0
        cases o with
        | cells C T fz =>
          simp only at h0
          split at h0
          · cases h0
          · rename_i hsp
            have hcell : ∀ i, i < zs.length → C[a.off + i]? = some (.int k (zs.getD i 0)) := fun i hi => by
              have := h7 i hi
              unfold World.cell? at this
              rw [add_block, hb] at this
              simp only at this
              split at this
              · cases this
              · rwa [add_off] at this
            refine ⟨⟨a.block, a.off, zs.map (AVal.int k)⟩, zs, len, cap, .inr ⟨C, T, fz, hb, ?_, fun i x y hx hy => ?_⟩, rfl, h5, h3, h8, .inr (by rw [h6]), fun i μ hμ => ⟨.slice (some ⟨i, 0, 0⟩) len cap, ?_, .inr (.inr ⟨rfl, by omega⟩)⟩⟩
            · have := hcell (zs.length - 1) (by omega)
              have := (Array.getElem?_eq_some_iff.1 this).1
              simp only [List.length_map]
              omega
            · simp only [List.getElem?_map] at hx
              cases hz : zs[i]? with
              | none => rw [hz] at hx; cases hx
              | some z =>
                rw [hz] at hx
                cases hx
                have hi := (List.getElem?_eq_some_iff.1 hz).1
                have := hcell i hi
                simp only at hy
                rw [this] at hy
                cases hy
                refine ⟨k, z, rfl, ?_⟩
                simp [List.getD_eq_getElem?_getD, hz]
            · have ha : a = ⟨a.block, a.off, none⟩ := by
                cases a with
                | mk b o sp =>
                  simp only [Addr.add, if_true] at hsp
                  cases sp with
                  | none => rfl
                  | some z => exact absurd rfl hsp
              have hv := VR.slice (μ := μ) ⟨i, 0, 0⟩ ⟨a.block, a.off, (zs.map (AVal.int k)).length, 0⟩ len cap cap (hμ (by omega)) (by omega) h3 (Nat.le_refl _) (fun _ => .inl rfl)
              rw [ha]
              simpa using hv
        | _ => cases h0
end Go.AM
/-
  The statement of CardChains, out of what the abstract machine says of it.
-/
namespace Go.AM
open Go.Proofs.Try Go.RowKit Go.ChangeShapes

theorem own : ownKnob Go.Proofs.Try.prog.godebug = none := by kernel_rfl
theorem laid : laidOutB Go.Proofs.Try.prog = true := by kernel_rfl

/-- A call that the abstract machine answers with true. -/
theorem calls_true {f : FuncId} {args : List AVal} {A : Array Value} {R : List Rw} {W : World} {h' : Heap} (hR : ∀ r ∈ R, r.ok W) (hargs : VRs (muR R) args A.toList) (hv : callL prog raw 0 (.fn f [] []) args (heapR R) = some (.bool true, h')) :
    Calls prog f A W fun e W' => e = .returned (.bool true) ∧ Below W.heap.size W W' := by
  have h0 := callL_sound (raw := raw) allOk (Nat.zero_le _) (hrelR (P := prog) hR) hargs hv
  refine (callsIn_wide.1 h0).mono fun e W' ⟨X, he, μ', _, hX, _, hE, _⟩ => ?_
  have : X = .bool true := by cases hX; rfl
  subst this
  exact ⟨he, below_of_evo hE⟩

/-- A slice of numbers as the abstract machine reads it. -/
theorem ints_of {R : List Rw} {i len cap : Nat} {zs : List Int} {r : Rw} {v : AVal} (hr : 0 < cap → R[i]? = some r) (hcs : r.cs = zs.map (AVal.int .i64)) (hz : zs.length = cap) (hl : len ≤ cap) (hb : cap < 2 ^ 60) (hw : ∀ z ∈ zs, (Lit.int .i64 z).wf = true)
    (hv : (v = .slice none 0 0 ∧ cap = 0) ∨ (v = .emp ∧ cap = 0) ∨ (v = .slice (some ⟨i, 0, 0⟩) len cap ∧ 0 < cap)) : Ints (heapR R) v (zs.take len) := by
  refine ⟨⟨by simp; omega, fun x hx => ?_⟩, ?_⟩
  · have := hw x (List.mem_of_mem_take hx)
    simp [Lit.wf, IntKind.min, IntKind.max, IntKind.signed, IntKind.bits] at this
    omega
  · rcases hv with ⟨rfl, h0⟩ | ⟨rfl, h0⟩ | ⟨rfl, h0⟩
    · exact .inl ⟨rfl, by simp; exact .inr (List.eq_nil_of_length_eq_zero (by omega))⟩
    · exact .inr (.inl ⟨rfl, by simp; exact .inr (List.eq_nil_of_length_eq_zero (by omega))⟩)
    · have hlen : (zs.take len).length = len := by rw [List.length_take]; omega
      refine .inr (.inr ⟨⟨i, 0, 0⟩, cap, r.cs, 3, false, true, by rw [hlen], heapR_get (hr h0), ?_, ?_, by rw [hlen]; exact hl⟩)
      · rw [hlen, hcs, List.drop_zero]
        simp [ints, List.map_take]
      · rw [hlen, hcs]; simp; omega

theorem bulk_slice {H : Type} {k : IntKind} {us vs : List Int} : Go.Proofs.Ytppkmjfplhenmaa.Rows.uptoBulk (.slice (lits (H := H) k us) (lits k vs)) = us.length + vs.length + 1 := by
  have h : ∀ l : List Int, Go.Proofs.Ytppkmjfplhenmaa.Rows.uptoBulkAll (lits (H := H) k l) = l.length := fun l => by
    induction l with
    | nil => rfl
    | cons x xs ih =>
      simp only [lits, List.map_cons, Go.Proofs.Ytppkmjfplhenmaa.Rows.uptoBulkAll, Go.Proofs.Ytppkmjfplhenmaa.Rows.uptoBulk, List.length_cons] at ih ⊢
      rw [ih]; omega
  simp only [Go.Proofs.Ytppkmjfplhenmaa.Rows.uptoBulk, h]
end Go.AM
/-
  The statement of CardChains, out of what the abstract machine says of it.
-/
namespace Go.AM
open Go.Proofs.Try Go.RowKit Go.ChangeShapes Go.WideShapes Go.ChangeAt
open Go.Proofs.Ytppkmjfplhenmaa (Rows.uptoSmall Rows.cardChainsSpec Rows.uptoBulkAll Rows.uptoBulk)
set_option maxRecDepth 100000

theorem one24 : Go.Deep.oneCellFields prog #[{ name := "Width", type := 3, offset := 0, embedded := false, tag := "", pkgPath := "", byteOffset := 0 }, { name := "Throws", type := 22, offset := 1, embedded := false, tag := "", pkgPath := "", byteOffset := 8 }] = true := by kernel_rfl

/-- A pattern that came in. -/
theorem open_paper {H : Type} {enc : TypeId × Value → H} {W : World} {base : Nat} {V : Value} {d : DataW H} {p : List MemPlace} (hval : Value.okWide prog W .any base 24 V) (h : DataW.Trod enc prog W 0 (fun _ => true) true 24 V d p) :
    ∃ (r : Rw) (zs : List Int) (len cap : Nat) (w : Int) (V1 : Value), V = .agg #[.int .i64 w, V1] ∧ (r.cs = [] ∨ r.ok W) ∧ r.cs = zs.map (AVal.int .i64) ∧ zs.length = cap ∧ len ≤ cap ∧ (∀ z ∈ zs, (Lit.int .i64 z).wf = true) ∧ cap ≤ Rows.uptoBulk d ∧
      ∀ (i : Nat) (μ : Mu), (0 < cap → μ.loc i 0 = some ⟨r.blk, r.off, r.cs.length, 0⟩) → ∃ v, VR μ v V1 ∧ ((v = .slice none 0 0 ∧ cap = 0) ∨ (v = .emp ∧ cap = 0) ∨ (v = .slice (some ⟨i, 0, 0⟩) len cap ∧ 0 < cap)) := by
  obtain ⟨v0, v1, y0, y1, n, rfl, rfl, rfl, h0, h1⟩ := Go.Joins.open_agg2 underlying24 one24 (by kernel_rfl) hval h
  obtain ⟨w, h2, rfl, -⟩ := DataW.trod_int underlying3 h0
  simp only [List.cons.injEq, and_true] at h2
  subst h2
  obtain ⟨r, zs, len, cap, a1, a2, a3, a4, a5, a6, a7⟩ := arg_slice underlying22 underlying3 (by kernel_rfl) h1
  refine ⟨r, zs, len, cap, w, v1, rfl, a1, a2, a3, a4, a5, ?_, a7⟩
  rcases a6 with e | e
  · have hz : zs = [] ∨ cap = 0 := by
      by_cases hc : cap = 0
      · exact .inr hc
      · exfalso
        obtain ⟨v, hv, h3⟩ := a7 0 (muR [r]) (fun _ => by rw [muR_loc (r := r) rfl])
        rcases h3 with ⟨_, h4⟩ | ⟨_, h4⟩ | ⟨h4, _⟩
        · exact hc h4
        · exact hc h4
        · subst h4
          cases hv with
          | slice r' L n' kcap C h5 =>
            have hx := h1
            rcases Go.ChangeShapes.open_ints underlying22 underlying3 (by kernel_rfl) hx with ⟨h6, _⟩ | ⟨_, _, _, _, _, _, _, _, _, h6, _⟩
            · simp at h6
            · rw [h6] at e; cases e
          | slice0 => omega
    rcases hz with rfl | hz
    · simp at a3; omega
    · omega
  · simp only [Rows.uptoBulk, Rows.uptoBulkAll]
    rw [e, bulk_slice]
    simp only [List.length_take, List.length_drop]
    omega

theorem chains_contract (hrun : ∀ {base : Nat} {h : Heap} {v : AVal} {l : List Int} {w k s : Int}, Ints h v l → l.length ≤ 1048576 → callL prog raw base (.fn 3 [] []) [pap w v, .int .i64 k, .int .i64 s] h = some (.bool true, h))
    (H : Type) (enc : TypeId × Value → H) (W : World) (base : Nat) (args : Array Value) (ds gs : List (DataW H)) (before : List MemPlace)
    (hval : ∀ (j : Nat) t v, f3.params[j]? = some t → args[j]? = some v → Value.okWide prog W .any base t v)
    (hW : DataW.Whole enc prog f3.params.toList Rows.cardChainsSpec.vars false W args.toList ds gs before) (hk : Rows.uptoSmall H (ds ++ gs) = true) :
    Calls prog 3 args W fun e W' => ∃ v, e = .returned v ∧ Rows.cardChainsSpec.post enc prog f3 false true false false W args v W' := by
  have hW' := hW
  obtain ⟨p, q, hA0, hV, rfl, hfz, hnd⟩ := hW
  obtain ⟨rfl, rfl⟩ := trodVars_none hV
  have hA : DataW.TrodAll enc prog W 0 (fun _ => true) true f3.params.toList args.toList ds p := hA0
  rw [params3] at hA hval
  obtain ⟨v0, vs0, d0, ds0, p0, q0, hargs, rfl, rfl, h0, r0⟩ := trodAll_cons hA
  obtain ⟨v1, vs1, d1, ds1, p1, q1, rfl, rfl, rfl, h1, r1⟩ := trodAll_cons r0
  obtain ⟨v2, vs2, d2, ds2, p2, q2, rfl, rfl, rfl, h2, r2⟩ := trodAll_cons r1
  obtain ⟨rfl, rfl, rfl⟩ := trodAll_nil r2
  obtain rfl : args = #[v0, v1, v2] := by cases args; simp_all
  obtain ⟨r, zs, len, cap, w, V1, rfl, a1, a2, a3, a4, a5, a6, a7⟩ := open_paper (hval 0 24 v0 rfl rfl) h0
  obtain ⟨k, rfl, rfl, -, -⟩ := open_int underlying25 (hval 1 25 v1 rfl rfl) h1
  obtain ⟨s, rfl, rfl, -, -⟩ := open_int underlying3 (hval 2 3 v2 rfl rfl) h2
  have hb : cap ≤ 1048576 := by
    have := of_decide_eq_true hk
    simp only [List.append_nil, Rows.uptoBulkAll] at this
    omega
  have hR : ∃ R : List Rw, (∀ x ∈ R, x.ok W) ∧ (0 < cap → R[0]? = some r) := by
    rcases a1 with h | h
    · refine ⟨[], by simp, fun hc => ?_⟩
      rw [h] at a2
      have := congrArg List.length a2
      simp at this
      omega
    · exact ⟨[r], by simpa using h, fun _ => rfl⟩
  obtain ⟨R, hR1, hR2⟩ := hR
  obtain ⟨v, hv, hv2⟩ := a7 0 (muR R) (fun hc => muR_loc (hR2 hc))
  have hI := ints_of hR2 a2 a3 a4 (by omega) a5 hv2
  have hc := calls_true (f := 3) (args := [pap w v, .int .i64 k, .int .i64 s]) (A := #[.agg #[.int .i64 w, V1], .int .i64 k, .int .i64 s]) hR1
    (.cons (VRs.agg (.cons (.int _ _) (.cons hv .nil))) (.cons (.int _ _) (.cons (.int _ _) .nil))) (hrun hI (by rw [List.length_take]; omega))
  have hrd : ∀ t ∈ f3.params.toList, prog.readableRec t = true ∧ t < prog.types.size := by
    rw [params3]
    intro t ht
    simp only [List.mem_cons, List.not_mem_nil, or_false] at ht
    rcases ht with rfl | rfl | rfl
    · exact ⟨by kernel_rfl, of_decide_eq_true (by kernel_rfl)⟩
    · exact ⟨by kernel_rfl, of_decide_eq_true (by kernel_rfl)⟩
    · exact ⟨by kernel_rfl, of_decide_eq_true (by kernel_rfl)⟩
  refine hc.mono fun e W' ⟨he, hbel⟩ => ?_
  subst he
  exact ⟨_, rfl, post_below laid hrd hbel rfl hW' (fun _ _ _ => trodAll_cons_mk (shut_bool underlying4 _) trodAll_mk0) rfl rfl (ok_one (by kernel_rfl) rfl (okWide_bool_mk underlying4 _))⟩
end Go.AM
