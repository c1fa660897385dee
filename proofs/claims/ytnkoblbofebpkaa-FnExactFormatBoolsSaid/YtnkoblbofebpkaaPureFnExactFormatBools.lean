/-
  FnExactFormatBools: both loops are the same loop, it ends, and orDash is the test behind the reference's loop.
-/
import Derived.Test.YtnkoblbofebpkaaPFnExactFormatBoolsx
import Derived.Test.YtnkoblbofebpkaaPL
set_option linter.unusedVariables false
set_option linter.unusedSimpArgs false
namespace Go.Proofs.Ytnkoblbofebpkaa.Pure
open Go.RowKit Go.Proofs.Ytnkoblbofebpkaa.PFnExactFormatBools Go.Proofs.YtnkoblbofebpkaaW.PrintWords Go.Proofs.YtnkoblbofebpkaaW.PrintLast Go.Proofs.YtnkoblbofebpkaaW.PrintMore Go.Proofs.Ytnkoblbofebpkaa.PL

theorem toBoolS_l0 (l : List Bool) (hn : l.length ≤ 35184372088832) (d : Nat) : ∀ (i : Nat) (o : List Bool), i ≤ l.length → l.length - i = d → o.length = l.length → o.take i = l.take i →
    Ev (fun k => laws_toBoolS.l0 k l o i) l := by
  induction d with
  | zero =>
    intro i o h1 hd ho ht
    refine Ev.step (fun k => by rw [laws_toBoolS.l0]) (ev_neg (by omega) (ev_eq (ev_some o) ?_))
    rw [List.take_of_length_le (by omega), List.take_of_length_le (by omega)] at ht
    exact ht
  | succ d ih =>
    intro i o h1 hd ho ht
    refine Ev.step (fun k => by rw [laws_toBoolS.l0]) (ev_pos (by omega) (ev_pos (by omega) (ev_pos (by omega) ?_)))
    rw [w64 (by omega) (by omega)]
    have e : ((i : Int) + 1) = ((i + 1 : Nat) : Int) := by omega
    rw [e]
    refine ih (i + 1) _ (by omega) (by omega) (by simp [ho]) ?_
    simp only [Int.toNat_natCast]
    rw [List.take_succ_eq_append_getElem (by simp; omega), List.take_succ_eq_append_getElem (by omega), List.take_set_of_le (Nat.le_refl _), ht]
    congr 1
    simp [rdOf, List.getD_eq_getElem?_getD, List.getElem?_eq_getElem (show i < l.length by omega)]
theorem toBoolS_ev (l : List Bool) (hn : l.length ≤ 35184372088832) : Ev (fun k => laws_toBoolS.f k l) l := by
  unfold laws_toBoolS.f
  refine ev_pos (by omega) (ev_pos (by omega) ?_)
  exact toBoolS_l0 l hn l.length 0 _ (by omega) (by omega) (by simp) (by simp)
theorem eqBoolS_l0 (l m : List Bool) (hlm : l.length = m.length) (hn : l.length ≤ 9223372036854775807) (d : Nat) : ∀ i : Int, 0 ≤ i → i ≤ l.length → (l.length : Int) - i = d →
    ∃ b, Ev (fun k => laws_eqBoolS.l0 k l m i) b ∧ (b = true ↔ ∀ j : Int, i ≤ j → j < l.length → rdOf false l j = rdOf false m j) := by
  induction d with
  | zero =>
    intro i h0 h1 hd
    exact ⟨true, Ev.step (fun k => by rw [laws_eqBoolS.l0]) (ev_neg (by omega) (ev_some true)), ⟨fun _ j _ _ => (by omega), fun _ => rfl⟩⟩
  | succ d ih =>
    intro i h0 h1 hd
    by_cases he : rdOf false l i = rdOf false m i
    · obtain ⟨b, hb, hi⟩ := ih (i + 1) (by omega) (by omega) (by omega)
      refine ⟨b, Ev.step (fun k => by rw [laws_eqBoolS.l0]) (ev_pos (by omega) (ev_pos h0 (ev_pos (by omega) (ev_neg (by simp [he]) ?_)))), ?_⟩
      · rw [w64 (by omega) (by omega)]; exact hb
      · rw [hi]
        constructor
        · intro h j hj hl
          by_cases e : j = i
          · rw [e]; exact he
          · exact h j (by omega) hl
        · intro h j hj hl
          exact h j (by omega) hl
    · exact ⟨false, Ev.step (fun k => by rw [laws_eqBoolS.l0]) (ev_pos (by omega) (ev_pos h0 (ev_pos (by omega) (ev_pos (by simpa using he) (ev_some false))))), ⟨fun h => (by cases h), fun h => absurd (h i (by omega) (by omega)) he⟩⟩
theorem rdOf_eq {l : List Bool} {i : Int} (h0 : 0 ≤ i) (h1 : i < l.length) : l[i.toNat]? = some (rdOf false l i) := by
  unfold rdOf
  rw [List.getD_eq_getElem?_getD, List.getElem?_eq_getElem (by omega)]
  rfl
theorem eqBoolS_ev (l m : List Bool) (hn : l.length ≤ 9223372036854775807) : Ev (fun k => laws_eqBoolS.f k l m) (decide (l = m)) := by
  unfold laws_eqBoolS.f
  by_cases h : l.length = m.length
  · obtain ⟨b, hb, hi⟩ := eqBoolS_l0 l m h hn l.length 0 (by omega) (by omega) (by omega)
    refine ev_pos (by omega) (ev_eq hb ?_)
    rw [Bool.eq_iff_iff, hi, decide_eq_true_eq]
    constructor
    · intro hr
      apply List.ext_getElem?
      intro i
      by_cases hi : i < l.length
      · have e1 := rdOf_eq (l := l) (i := (i : Int)) (by omega) (by omega)
        have e2 := rdOf_eq (l := m) (i := (i : Int)) (by omega) (by omega)
        simp only [Int.toNat_natCast] at e1 e2
        rw [e1, e2, hr i (by omega) (by omega)]
      · rw [List.getElem?_eq_none (by omega), List.getElem?_eq_none (by omega)]
    · intro e j _ _; rw [e]
  · refine ev_neg (by omega) (ev_eq (ev_some false) ?_)
    symm; rw [decide_eq_false_iff_not]
    intro e; exact h (by rw [e])

theorem format_same : ∀ k s y n i, impl_FormatBools.l0 k s y n i = spec_FormatBools.l0 k s y n i
  | 0, _, _, _, _ => rfl
  | k + 1, s, y, n, i => by
    simp only [impl_FormatBools.l0, spec_FormatBools.l0, format_same k, impl_orDash.f]
    by_cases h : s.toList = ([] : List UInt8) <;> simp [h]
theorem format_ends (l : List Bool) (hn : l.length ≤ 1048576) (d : Nat) : ∀ (i : Int) (s : ByteArray), 0 ≤ i → i ≤ l.length → (l.length : Int) - i = d → (s.size : Int) ≤ i → ∃ r, Ev (fun k => spec_FormatBools.l0 k s l l.length i) r := by
  induction d with
  | zero =>
    intro i s h0 h1 hd hs
    by_cases he : s.toList = ([] : List UInt8)
    · exact ⟨_, Ev.step (fun k => by rw [spec_FormatBools.l0]) (ev_neg (by omega) (ev_pos he (ev_some _)))⟩
    · exact ⟨_, Ev.step (fun k => by rw [spec_FormatBools.l0]) (ev_neg (by omega) (ev_neg he (ev_some _)))⟩
  | succ d ih =>
    intro i s h0 h1 hd hs
    have hw : wrap64 (i + 1) = i + 1 := w64 (by omega) (by omega)
    by_cases hb : rdOf false l i = true
    · obtain ⟨r, hr⟩ := ih (i + 1) (s ++ (⟨#[121]⟩ : ByteArray)) (by omega) (by omega) (by omega) (by rw [ByteArray.size_append]; show ((s.size + 1 : Nat) : Int) ≤ _; omega)
      refine ⟨r, Ev.step (fun k => by rw [spec_FormatBools.l0]) (ev_pos (by omega) (ev_pos h0 (ev_pos (by omega) (ev_pos hb (ev_pos (by omega) ?_)))))⟩
      rw [hw]; exact hr
    · obtain ⟨r, hr⟩ := ih (i + 1) (s ++ (⟨#[110]⟩ : ByteArray)) (by omega) (by omega) (by omega) (by rw [ByteArray.size_append]; show ((s.size + 1 : Nat) : Int) ≤ _; omega)
      refine ⟨r, Ev.step (fun k => by rw [spec_FormatBools.l0]) (ev_pos (by omega) (ev_pos h0 (ev_pos (by omega) (ev_neg hb (ev_pos (by omega) ?_)))))⟩
      rw [hw]; exact hr
theorem FnExactFormatBools (l : List Bool) (hm : l.length ≤ maxLen) (_ : ∀ x ∈ l, True) : ∃ k, laws_FnExactFormatBools.f k l = some true := by
  apply Ev.rounds
  unfold laws_FnExactFormatBools.f
  by_cases hl : (l.length : Int) > 1048576
  · exact ev_pos hl (ev_some _)
  · obtain ⟨r, hr⟩ := format_ends l (by omega) l.length 0 (⟨#[]⟩ : ByteArray) (by omega) (by omega) (by omega) (by decide)
    have ht := toBoolS_ev l (by omega)
    have hs : Ev (fun k => spec_FormatBools.f k l) r := hr
    have hi : Ev (fun k => impl_FormatBools.f k l) r := Ev.congr (fun k => format_same k _ _ _ _) hr
    exact ev_neg hl (Ev.bind ht (Ev.bind hs (Ev.bind ht (Ev.bind hi (ev_pos rfl (Ev.bind ht (Ev.bind (eqBoolS_ev l l (by omega)) (ev_pos (by simp) (ev_some _)))))))))

end Go.Proofs.Ytnkoblbofebpkaa.Pure
