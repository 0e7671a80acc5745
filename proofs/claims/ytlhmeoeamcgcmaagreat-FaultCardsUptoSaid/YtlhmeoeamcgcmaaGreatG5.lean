/-
  Contracts: a truth that is tried.
-/
import Derived.Test.YtlhmeoeamcgcmaaGreatG4
import Derived.Test.YtlhmeoeamcgcmaaGreatK1
import Derived.Test.YtlhmeoeamcgcmaaGreatE35
import Derived.Test.YtlhmeoeamcgcmaaGreatW6
set_option linter.unusedSimpArgs false
set_option linter.unusedVariables false
namespace Go.AM
open Go.Proofs.Tryz
attribute [-go_sem] put_ne put_same
attribute [local go_sem ↓] put_if
theorem SpAt.ext {h H : Heap} {id : Nat} {v : AVal} {silk : List Int} {k : Nat} (x : SpAt h id v silk k) (e : Ext h H) : SpAt H id v silk k := by
  obtain ⟨t, rfl⟩ := e
  exact x.app
/-- The heap goes on from one whose spool was turned. -/
def SpE (h : Heap) (id : Nat) (v : AVal) (silk : List Int) (k : Nat) (H : Heap) : Prop := Ext (h.set id (spB v silk k)) H
section
variable {h H H' : Heap} {id k0 k k' : Nat} {v : AVal} {silk : List Int}
theorem SpE.at (x : SpE h id v silk k H) (hS : SpAt h id v silk k0) : SpAt H id v silk k := hS.set.ext x
theorem SpE.refl (hS : SpAt h id v silk k) : SpE h id v silk k h := by
  unfold SpE
  have := hS.1
  obtain ⟨hid, hg⟩ := List.getElem?_eq_some_iff.1 this
  rw [← hg, List.set_getElem_self]
  exact .refl
theorem SpE.step (x : SpE h id v silk k H) (hid : id < h.length) : SpE h id v silk k' (H.set id (spB v silk k')) := by
  have := Ext.set2 (k := spB v silk k') x (i := id) (by simpa using hid)
  unfold SpE
  rwa [List.set_set] at this
theorem SpE.ext (x : SpE h id v silk k H) (e : Ext H H') : SpE h id v silk k H' := Ext.trans x e
theorem SpE.app {T : Heap} (x : SpE h id v silk k H) : SpE h id v silk k (H ++ T) := x.ext (.app .refl)
theorem SpE.len (x : SpE h id v silk k H) : h.length ≤ H.length := by have := Ext.len x; simpa using this
theorem SpE.get (x : SpE h id v silk k H) {i : Nat} {b : ABlk} (hi : i ≠ id) (hg : h[i]? = some b) : H[i]? = some b := Ext.get x (by rw [List.getElem?_set_ne (fun e => hi e.symm)]; exact hg)
/-- What lay behind an older heap. -/
theorem SpE.low {T : Heap} (x : SpE (h ++ T) id v silk k H) (hid : id < h.length) : SpE h id v silk k H := by
  unfold SpE at x ⊢
  rw [List.set_append_left _ _ hid] at x
  exact (Ext.app .refl).trans x
end
end Go.AM
/-
  Contracts: a loom that is made, with a truth that explains it.
-/
namespace Go.AM
open Go.Proofs.Tryz
attribute [-go_sem] put_ne put_same
attribute [local go_sem ↓] put_if
/-- A part of a loom of so many ribbons. -/
def prtOk (R : Int) (p : Prt) : Prop := 0 < p.rib.length ∧ (1 ≤ p.each ∧ p.each ≤ 4) ∧ (0 ≤ p.ph ∧ p.ph ≤ p.each - 1) ∧ (∀ r ∈ p.rib, 0 ≤ r ∧ r ≤ R - 1) ∧ riseB p.rib = true
def sgtOk (R T : Int) (s : Sgt) : Prop := (0 ≤ s.rib ∧ s.rib ≤ R - 1) ∧ (0 ≤ s.lo ∧ s.lo ≤ T - 1) ∧ (0 ≤ s.hi ∧ s.hi ≤ T - 1) ∧ s.lo ≤ s.hi
theorem riseB_of {l : List Int} (h : l.Pairwise (· < ·)) : riseB l = true := by
  refine decide_eq_true fun i hi h0 => ?_
  rw [getD_at hi, getD_at (show i - 1 < l.length by omega)]
  exact List.pairwise_iff_getElem.1 h _ _ _ hi (by omega)
theorem nodup_len {R : Int} {l : List Int} (hp : l.Pairwise (· < ·)) (hr : ∀ x ∈ l, 0 ≤ x ∧ x ≤ R - 1) : (l.length : Int) ≤ max R 0 := by
  have hn : l.Nodup := hp.imp fun h => by omega
  have := pigeon (R := fun (a : Int) (b : Nat) => a = (b : Int)) (t := List.range R.toNat) hn (fun a ha => ⟨a.toNat, List.mem_range.2 (by have := hr a ha; omega), by have := hr a ha; omega⟩) (fun a _ c _ b _ h1 h2 => h1.trans h2.symm)
  rw [List.length_range] at this
  omega
theorem small_rise {R : Int} {p : Prt} (h : prtOk R p) (hR : R ≤ 1000 := by omega) : Small p.rib := by
  obtain ⟨_, _, _, h4, h5⟩ := h
  have := nodup_len (rise_pair h5) h4
  exact ⟨by omega, fun x hx => by have := h4 x hx; omega⟩
theorem run_sgt' {base : Nat} {h : Heap} {r lo hi : Int} {b : Bool} : callL prog raw base (.fn 54 [] []) [.int .i64 r, .int .i64 lo, .int .i64 hi, .bool b] h = some (.agg [.int .i64 r, .int .i64 lo, .int .i64 hi, .bool b], h) := run_sgt
end Go.AM
/-
  What the statements out of numbers begin with.
-/
namespace Go.AM
open Go.Proofs.Tryz
attribute [-go_sem] put_ne put_same
attribute [local go_sem ↓] put_if
theorem prtOk_of {L : Lom} (hc : chkM L = 0) : ∀ p ∈ L.ps, prtOk L.R p := (chkM_ok hc).2.2.2.2.1
theorem lomOk_of {L : Lom} (hc : chkM L = 0) : LomOk L := by
  obtain ⟨k1, k2, k3, k4, k5, k6⟩ := chkM_ok hc
  refine ⟨fun p hp => small_rise (prtOk_of hc p hp), by omega, by omega, fun p hp => by have := k5 p hp; omega, fun p hp => ?_⟩
  have := k5 p hp
  have := nodup_len (rise_pair this.2.2.2.2) this.2.2.2.1
  omega
/-- A loom that was made, with its truth, on a heap. -/
structure MadeAt (H : Heap) (L : Lom) (t : List Brk) (pv sv tv : AVal) : Prop where
  hP : Parts H pv L.ps
  hS : Rows encS H sv L.ss
  hT : Rows encB H tv t
  oT : Own encB 75 0 H tv t
  hc : chkM L = 0
  ok : LomOk L
  xp : XpA L t
end Go.AM
