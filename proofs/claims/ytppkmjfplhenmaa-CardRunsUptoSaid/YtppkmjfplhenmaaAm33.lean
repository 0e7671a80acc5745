/-
  Loops whose registers, but for some, stay as they were.
-/
import Derived.Test.YtppkmjfplhenmaaA6
set_option linter.unusedSimpArgs false
set_option linter.unusedVariables false
namespace Go.AM

/-- Is a register in one of some ranges? -/
def inR : List (Nat × Nat) → Nat → Bool
  | [], _ => false
  | (a, b) :: l, r => (Nat.ble a r && Nat.ble r b) || inR l r
/-- Registers outside of some ranges are the same. -/
def Agree (m : List (Nat × Nat)) (fr FR : AFrame) : Prop := ∀ r, inR m r = false → fr r = FR r
theorem Agree.refl {m : List (Nat × Nat)} {fr : AFrame} : Agree m fr fr := fun _ _ => rfl
theorem Agree.put {m : List (Nat × Nat)} {fr FR : AFrame} {d : Tmp} {v : AVal} (hd : inR m d = true) (h : Agree m fr FR) : Agree m (Go.AM.put fr (some d) v) FR := fun r hr => by
  have hne : r ≠ d := by rintro rfl; rw [hd] at hr; cases hr
  rw [Go.AM.put_ne hne]
  exact h r hr
theorem Agree.put0 {m : List (Nat × Nat)} {fr FR : AFrame} {v : AVal} (h : Agree m fr FR) : Agree m (Go.AM.put fr none v) FR := h

section
variable {P : Program} {raw : FuncId → Bool} {base : Nat} {Q : AExit → St → Prop}
/-- A loop with a state of one's own. -/
theorem WP_iter {α : Type} {c : Code} {FR : AFrame} {H : Heap} (mod : List (Nat × Nat)) (J : Heap → α → AFrame → Heap → Prop) (m : α → Nat) (a0 : α) (h0 : J H a0 FR H)
    (step : ∀ a fr h, Agree mod fr FR → J H a fr h → WP P raw base c ⟨fr, h⟩ (thenQ (fun s' => Agree mod s'.fr FR ∧ ∃ a', J H a' s'.fr s'.h ∧ m a' < m a) Q)) : WP P raw base (.loop c) ⟨FR, H⟩ Q := by
  have key : ∀ n a fr h, m a = n → Agree mod fr FR → J H a fr h → WP P raw base (.loop c) ⟨fr, h⟩ Q := by
    intro n
    induction n using Nat.strongRecOn with
    | _ n ih =>
      intro a fr h hn hA hJ
      rw [WP_iff]
      obtain ⟨e, s1, h1, hq⟩ := step a fr h hA hJ
      simp only [evF]
      rw [h1]
      cases e with
      | normal =>
        obtain ⟨hA', a', hJ', hm⟩ := hq
        exact ih (m a') (hn ▸ hm) a' s1.fr s1.h rfl hA' hJ'
      | exit id => exact ⟨_, _, rfl, hq⟩
      | ret => exact ⟨_, _, rfl, hq⟩
  exact key _ a0 FR H rfl Agree.refl h0
end
end Go.AM
