/-
  WORDS BY HAND for slices.IndexFunc and slices.ContainsFunc: what a function value answers at the elements of a list.
-/
import Derived.Test.YtlmopkacmgpicaaProg
import Derived.Test.YtlmopkacmgpicaaWWords
import Derived.Test.YtlmopkacmgpicaaWMore
import Derived.WalkKit
import Derived.KernelRfl
import Derived.RowKit3
import Derived.Deep.LoopGhost
import Derived.Deep.Draws
import Derived.Deep.QuietTactic
import Derived.BigQuiet
import Derived.Tactics
import Derived.Shelf.Abstract
namespace Go.Proofs.Ytlmopkacmgpicaa.H
open Go.RowKit Go.Proofs.YtlmopkacmgpicaaW.PrintWords Go.Proofs.YtlmopkacmgpicaaW.PrintLast Go.Proofs.YtlmopkacmgpicaaW.PrintMore
set_option linter.unusedVariables false
set_option linter.unusedSimpArgs false
/-- The first element of which p holds, counted from i on; -1. -/
def idxO {α : Type} (p : α → Option Bool) : List α → Int → Option Int
  | [], _ => some (-1)
  | x :: xs, i => (p x).bind fun b => if b = true then some i else idxO p xs (i + 1)
/-- Is there an element of which p holds? -/
def anyO {α : Type} (p : α → Option Bool) : List α → Option Bool
  | [] => some false
  | x :: xs => (p x).bind fun b => if b = true then some true else anyO p xs
/-- What a function value answers at the elements of a list, in every later world. -/
def Answers (P : Program) {α : Type} (g : Nat) (lb : Array Value) (enc : α → Value) (p : α → Option Bool) (l : List α) (w : World) : Prop :=
  ∀ (W : World) (x : α) (b : Bool), x ∈ l → Below w.heap.size w W → p x = some b → Calls P g (#[enc x] ++ lb) W fun e w' => e = .returned (.bool b) ∧ Below W.heap.size W w'
theorem idx_any {α : Type} (p : α → Option Bool) : ∀ (l : List α) (i : Int) (b : Bool), 0 ≤ i → anyO p l = some b → ∃ r, idxO p l i = some r ∧ (decide (0 ≤ r) = b) ∧ (r = -1 ∨ (i ≤ r ∧ r < i + l.length))
  | [], i, b, _, h => by
    simp only [anyO, Option.some.injEq] at h
    subst h
    exact ⟨-1, rfl, rfl, .inl rfl⟩
  | x :: xs, i, b, h0, h => by
    simp only [anyO] at h
    obtain ⟨c, hc, h⟩ := Option.bind_eq_some_iff.1 h
    cases c with
    | true =>
      simp at h
      subst h
      exact ⟨i, by simp [idxO, hc], by simp [h0], .inr ⟨by omega, by simp; omega⟩⟩
    | false =>
      simp only [Bool.false_eq_true, if_false] at h
      obtain ⟨r, hr, hd, hx⟩ := idx_any p xs (i + 1) b (by omega) h
      exact ⟨r, by simp [idxO, hc, hr], hd, hx.imp id (fun hx => ⟨by omega, by simp only [List.length_cons]; omega⟩)⟩
theorem idx_step {α : Type} {p : α → Option Bool} {l : List α} {k : Nat} {r : Int} (hlt : k < l.length) (h : idxO p (l.drop k) k = some r) :
    ∃ b, p l[k] = some b ∧ (b = true → r = k) ∧ (b = false → idxO p (l.drop (k + 1)) ((k + 1 : Nat) : Int) = some r) := by
  rw [List.drop_eq_getElem_cons hlt] at h
  simp only [idxO] at h
  obtain ⟨b, hb, h⟩ := Option.bind_eq_some_iff.1 h
  refine ⟨b, hb, fun e => ?_, fun e => ?_⟩
  · subst e; simp at h; exact h.symm
  · subst e; simpa using h
theorem idx_end {α : Type} {p : α → Option Bool} {l : List α} {r : Int} (h : idxO p (l.drop l.length) l.length = some r) : r = -1 := by
  simp [idxO] at h; exact h.symm
end Go.Proofs.Ytlmopkacmgpicaa.H
