/-
  PLAIN LEMMAS: numbers that do not wrap, rounds of printed functions, lists. No program in sight.
-/
import Derived.Test.YtlmopkacmgpicaaWWords
import Derived.Test.YtlmopkacmgpicaaWMore
namespace Go.Proofs.Ytlmopkacmgpicaa.PL
open Go.RowKit Go.Proofs.YtlmopkacmgpicaaW.PrintWords Go.Proofs.YtlmopkacmgpicaaW.PrintMore

theorem w64 {x : Int} (h0 : -9223372036854775808 ≤ x) (h1 : x ≤ 9223372036854775807) : wrap64 x = x := by unfold wrap64; omega

theorem ev_pos {α : Type} {c : Prop} [Decidable c] {A B : Nat → Option α} {r : α} (hc : c) (h : Ev A r) : Ev (fun k => if c then A k else B k) r :=
  Ev.congr (fun _ => if_pos hc) h
theorem ev_neg {α : Type} {c : Prop} [Decidable c] {A B : Nat → Option α} {r : α} (hc : ¬ c) (h : Ev B r) : Ev (fun k => if c then A k else B k) r :=
  Ev.congr (fun _ => if_neg hc) h
theorem ev_dpos {α : Type} {p : Prop} [Decidable p] {A B : Nat → Option α} {r : α} (hc : p) (h : Ev A r) : Ev (fun k => if decide p = true then A k else B k) r :=
  ev_pos (decide_eq_true hc) h
theorem ev_dneg {α : Type} {p : Prop} [Decidable p] {A B : Nat → Option α} {r : α} (hc : ¬ p) (h : Ev B r) : Ev (fun k => if decide p = true then A k else B k) r :=
  ev_neg (fun h => hc (of_decide_eq_true h)) h
theorem ev_some {α : Type} (r : α) : Ev (fun _ => some r) r := Ev.now r
theorem ev_eq {α : Type} {g : Nat → Option α} {r r' : α} (h : Ev g r) (e : r = r') : Ev g r' := e ▸ h
/-- A call without rounds. -/
theorem ev_bind0 {α β : Type} {g : Option α} {f : Nat → α → Option β} {a : α} {r : β} (h : g = some a) (k : Ev (fun n => f n a) r) : Ev (fun n => g.bind (f n)) r :=
  Ev.bind (g := fun _ => g) ⟨0, fun _ _ => h⟩ k

/-- a, a + 1, .. : n numbers. -/
def iota (a : Int) : Nat → List Int
  | 0 => []
  | n + 1 => a :: iota (a + 1) n
theorem iota_length (a : Int) (n : Nat) : (iota a n).length = n := by induction n generalizing a with
  | zero => rfl
  | succ n ih => simp [iota, ih]
theorem iota_get (a : Int) (n i : Nat) (h : i < n) (d : Int) : (iota a n).getD i d = a + i := by
  induction n generalizing a i with
  | zero => omega
  | succ n ih =>
    cases i with
    | zero => simp [iota]
    | succ i =>
      have := ih (a + 1) i (by omega)
      simp only [iota, List.getD_cons_succ, this]
      omega
theorem rd_iota (a : Int) (n : Nat) (i : Int) (h0 : 0 ≤ i) (h1 : i < n) : rd (iota a n) i = a + i := by
  unfold rd
  rw [iota_get _ _ _ (by omega)]
  omega
theorem iota_snoc (a : Int) (n : Nat) : iota a (n + 1) = iota a n ++ [a + n] := by
  induction n generalizing a with
  | zero => simp [iota]
  | succ n ih =>
    show a :: iota (a + 1) (n + 1) = _
    rw [ih (a + 1)]
    simp only [iota, List.cons_append, List.cons.injEq, true_and]
    congr 2
    omega
theorem rd_eq {l : List Int} {i : Int} (h0 : 0 ≤ i) (h1 : i < l.length) : l[i.toNat]? = some (rd l i) := by
  unfold rd
  rw [List.getD_eq_getElem?_getD, List.getElem?_eq_getElem (by omega)]
  rfl
theorem ext_rd {l m : List Int} (h : l.length = m.length) (hr : ∀ i : Int, 0 ≤ i → i < l.length → rd l i = rd m i) : l = m := by
  apply List.ext_getElem? 
  intro i
  by_cases hi : i < l.length
  · have e1 := rd_eq (l := l) (i := (i : Int)) (by omega) (by omega)
    have e2 := rd_eq (l := m) (i := (i : Int)) (by omega) (by omega)
    simp only [Int.toNat_natCast] at e1 e2
    rw [e1, e2, hr i (by omega) (by omega)]
  · rw [List.getElem?_eq_none (by omega), List.getElem?_eq_none (by omega)]
end Go.Proofs.Ytlmopkacmgpicaa.PL
